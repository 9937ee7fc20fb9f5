/- The table's clock, each way. (Printed by wip/tools/gen.py from wip/sym/XSTm.lean.) -/
import Derived.Test.YtecmagdefllihaaKw
namespace Go.Proofs.Ytecmagdefllihaa
open Go.RowKit

set_option maxRecDepth 100000 in
theorem time_a0 (lo : Int) (room : Int) (n0 : Int) (z : Int) (ex : Bool) (fz : Bool) : outT noneKnown [(62, { op := [(1, 9, .br false)], gd := [(1, 7, false), (1, 8, false)] })] Try.prog 62 [AV.ptr 0 0 0, AV.val (Value.int IntKind.i64 z)] [(0, { t := 109, sz := 4, exact := ex, fz := fz, body := Body.rows [[AV.val (Value.int IntKind.i64 lo), AV.val (Value.int IntKind.i64 room), AV.val (Value.int IntKind.i64 n0), AV.val (Value.slice none 0 0)]] })] 1 =
   some (AV.val (Value.int IntKind.i64 n0), [(0, { t := 109, sz := 4, exact := ex, fz := fz, body := Body.rows [[AV.val (Value.int IntKind.i64 lo), AV.val (Value.int IntKind.i64 room), AV.val (Value.int IntKind.i64 n0), AV.val (Value.slice none 0 0)]] })], 17,
   rp 3 (decide (z > n0) = false) ( [])) := by kernel_rfl

set_option maxRecDepth 100000 in
theorem time_b0 (lo : Int) (room : Int) (n0 : Int) (z : Int) (ex : Bool) (fz : Bool) : outT noneKnown [(62, { op := [(1, 9, .br true)], gd := [(1, 7, true), (1, 8, true)], br := [(14, false)] })] Try.prog 62 [AV.ptr 0 0 0, AV.val (Value.int IntKind.i64 z)] [(0, { t := 109, sz := 4, exact := ex, fz := fz, body := Body.rows [[AV.val (Value.int IntKind.i64 lo), AV.val (Value.int IntKind.i64 room), AV.val (Value.int IntKind.i64 n0), AV.val (Value.slice none 0 0)]] })] 1 =
   some (AV.val (Value.int IntKind.i64 n0), [(0, { t := 109, sz := 4, exact := ex, fz := fz, body := Body.rows [[AV.val (Value.int IntKind.i64 lo), AV.val (Value.int IntKind.i64 room), AV.val (Value.int IntKind.i64 n0), AV.val (Value.slice none 0 0)]] })], 17,
   rp 3 (decide (z > n0) = true) (
   (decide (z ≤ (1099511627776 : Int)) = false) :: [])) := by kernel_rfl

set_option maxRecDepth 100000 in
theorem time_c0 (lo : Int) (room : Int) (n0 : Int) (z : Int) (ex : Bool) (fz : Bool) : outT noneKnown [(62, { op := [(1, 9, .br true)], gd := [(1, 7, true), (1, 8, true)], br := [(14, true)] })] Try.prog 62 [AV.ptr 0 0 0, AV.val (Value.int IntKind.i64 z)] [(0, { t := 109, sz := 4, exact := ex, fz := fz, body := Body.rows [[AV.val (Value.int IntKind.i64 lo), AV.val (Value.int IntKind.i64 room), AV.val (Value.int IntKind.i64 n0), AV.val (Value.slice none 0 0)]] })] 1 =
   some (AV.val (Value.int IntKind.i64 z), [(0, { t := 109, sz := 4, exact := ex, fz := fz, body := Body.rows [[AV.val (Value.int IntKind.i64 lo), AV.val (Value.int IntKind.i64 room), AV.val (Value.int IntKind.i64 z), AV.val (Value.slice none 0 0)]] })], 22,
   rp 3 (decide (z > n0) = true) (
   (decide (z ≤ (1099511627776 : Int)) = true) :: [])) := by kernel_rfl

set_option maxRecDepth 100000 in
theorem time_a1 (lo : Int) (room : Int) (n0 : Int) (z : Int) (ex : Bool) (fz : Bool) (off : Nat) (n : Nat) : outT noneKnown [(62, { op := [(1, 9, .br false)], gd := [(1, 7, false), (1, 8, false)] })] Try.prog 62 [AV.ptr 0 0 0, AV.val (Value.int IntKind.i64 z)] [(0, { t := 109, sz := 4, exact := ex, fz := fz, body := Body.rows [[AV.val (Value.int IntKind.i64 lo), AV.val (Value.int IntKind.i64 room), AV.val (Value.int IntKind.i64 n0), AV.sl 1 off n none]] })] 2 =
   some (AV.val (Value.int IntKind.i64 n0), [(0, { t := 109, sz := 4, exact := ex, fz := fz, body := Body.rows [[AV.val (Value.int IntKind.i64 lo), AV.val (Value.int IntKind.i64 room), AV.val (Value.int IntKind.i64 n0), AV.sl 1 off n none]] })], 18,
   rp 3 (decide (z > n0) = false) ( [])) := by kernel_rfl

set_option maxRecDepth 100000 in
theorem time_b1 (lo : Int) (room : Int) (n0 : Int) (z : Int) (ex : Bool) (fz : Bool) (off : Nat) (n : Nat) : outT noneKnown [(62, { op := [(1, 9, .br true)], gd := [(1, 7, true), (1, 8, true)], br := [(14, false)] })] Try.prog 62 [AV.ptr 0 0 0, AV.val (Value.int IntKind.i64 z)] [(0, { t := 109, sz := 4, exact := ex, fz := fz, body := Body.rows [[AV.val (Value.int IntKind.i64 lo), AV.val (Value.int IntKind.i64 room), AV.val (Value.int IntKind.i64 n0), AV.sl 1 off n none]] })] 2 =
   some (AV.val (Value.int IntKind.i64 n0), [(0, { t := 109, sz := 4, exact := ex, fz := fz, body := Body.rows [[AV.val (Value.int IntKind.i64 lo), AV.val (Value.int IntKind.i64 room), AV.val (Value.int IntKind.i64 n0), AV.sl 1 off n none]] })], 18,
   rp 3 (decide (z > n0) = true) (
   (decide (z ≤ (1099511627776 : Int)) = false) :: [])) := by kernel_rfl

set_option maxRecDepth 100000 in
theorem time_c1 (lo : Int) (room : Int) (n0 : Int) (z : Int) (ex : Bool) (fz : Bool) (off : Nat) (n : Nat) : outT noneKnown [(62, { op := [(1, 9, .br true)], gd := [(1, 7, true), (1, 8, true)], br := [(14, true)] })] Try.prog 62 [AV.ptr 0 0 0, AV.val (Value.int IntKind.i64 z)] [(0, { t := 109, sz := 4, exact := ex, fz := fz, body := Body.rows [[AV.val (Value.int IntKind.i64 lo), AV.val (Value.int IntKind.i64 room), AV.val (Value.int IntKind.i64 n0), AV.sl 1 off n none]] })] 2 =
   some (AV.val (Value.int IntKind.i64 z), [(0, { t := 109, sz := 4, exact := ex, fz := fz, body := Body.rows [[AV.val (Value.int IntKind.i64 lo), AV.val (Value.int IntKind.i64 room), AV.val (Value.int IntKind.i64 z), AV.sl 1 off n none]] })], 23,
   rp 3 (decide (z > n0) = true) (
   (decide (z ≤ (1099511627776 : Int)) = true) :: [])) := by kernel_rfl
end Go.Proofs.Ytecmagdefllihaa
