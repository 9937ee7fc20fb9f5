/- The law NatShut, reckoned on each of its ways. (Printed by wip/tools/gen.py from wip/sym/XSNs.lean.) -/
import Derived.Test.YtecmagdefllihaaTm
namespace Go.Proofs.Ytecmagdefllihaa
open Go.RowKit

set_option maxRecDepth 100000 in
theorem natShut_big1 (tos : Int) (id : Int) (flags : Int) (part : Int) (ttl : Int) (proto : Int) (f0 : Int) (f1 : Int) (f2 : Int) (f3 : Int) (t0 : Int) (t1 : Int) (t2 : Int) (t3 : Int) (opts : List UInt8) (body : List UInt8) (now : Int) : outT kTT [(9, { op := [(3, 9, .br true)], gd := [(3, 5, true), (3, 6, true), (3, 7, true), (3, 8, true)] })] Try.prog 9 [AV.agg [AV.val (Value.int IntKind.i64 tos), AV.val (Value.int IntKind.i64 id), AV.val (Value.int IntKind.i64 flags), AV.val (Value.int IntKind.i64 part), AV.val (Value.int IntKind.i64 ttl), AV.val (Value.int IntKind.i64 proto), AV.val (Value.int IntKind.u8 f0), AV.val (Value.int IntKind.u8 f1), AV.val (Value.int IntKind.u8 f2), AV.val (Value.int IntKind.u8 f3), AV.val (Value.int IntKind.u8 t0), AV.val (Value.int IntKind.u8 t1), AV.val (Value.int IntKind.u8 t2), AV.val (Value.int IntKind.u8 t3), AV.bytes opts, AV.bytes body], AV.val (Value.int IntKind.i64 now)] [] 0 =
   some (AV.val (Value.bool true), [], 15,
   rp 5 (decide ((↑(List.length body) : Int) > (1500 : Int)) = true) ( [])) := by kernel_rfl

set_option maxRecDepth 100000 in
theorem natShut_big2 (tos : Int) (id : Int) (flags : Int) (part : Int) (ttl : Int) (proto : Int) (f0 : Int) (f1 : Int) (f2 : Int) (f3 : Int) (t0 : Int) (t1 : Int) (t2 : Int) (t3 : Int) (opts : List UInt8) (body : List UInt8) (now : Int) : outT kTT [(9, { op := [(3, 9, .br false)], gd := [(3, 5, false), (3, 6, false), (3, 7, false), (3, 8, false)], br := [(20, true)] })] Try.prog 9 [AV.agg [AV.val (Value.int IntKind.i64 tos), AV.val (Value.int IntKind.i64 id), AV.val (Value.int IntKind.i64 flags), AV.val (Value.int IntKind.i64 part), AV.val (Value.int IntKind.i64 ttl), AV.val (Value.int IntKind.i64 proto), AV.val (Value.int IntKind.u8 f0), AV.val (Value.int IntKind.u8 f1), AV.val (Value.int IntKind.u8 f2), AV.val (Value.int IntKind.u8 f3), AV.val (Value.int IntKind.u8 t0), AV.val (Value.int IntKind.u8 t1), AV.val (Value.int IntKind.u8 t2), AV.val (Value.int IntKind.u8 t3), AV.bytes opts, AV.bytes body], AV.val (Value.int IntKind.i64 now)] [] 0 =
   some (AV.val (Value.bool true), [], 15,
   rp 5 (decide ((↑(List.length body) : Int) > (1500 : Int)) = false) (
   (decide ((↑(List.length opts) : Int) > (60 : Int)) = true) :: [])) := by kernel_rfl

set_option maxRecDepth 100000 in
theorem natShut_to (tos : Int) (id : Int) (flags : Int) (part : Int) (ttl : Int) (proto : Int) (f0 : Int) (f1 : Int) (f2 : Int) (f3 : Int) (t0 : Int) (t1 : Int) (t2 : Int) (t3 : Int) (opts : List UInt8) (body : List UInt8) (now : Int) : outT kTT [(9, { op := [(3, 9, .br false)], gd := [(3, 5, false), (3, 6, false), (3, 7, false), (3, 8, false)], br := [(20, false)], ob := [(7, 5)] }),
   (33, { ob := [(1, 3), (1, 4)] }),
   (32, { br := [(10, true)] })] Try.prog 9 [AV.agg [AV.val (Value.int IntKind.i64 tos), AV.val (Value.int IntKind.i64 id), AV.val (Value.int IntKind.i64 flags), AV.val (Value.int IntKind.i64 part), AV.val (Value.int IntKind.i64 ttl), AV.val (Value.int IntKind.i64 proto), AV.val (Value.int IntKind.u8 f0), AV.val (Value.int IntKind.u8 f1), AV.val (Value.int IntKind.u8 f2), AV.val (Value.int IntKind.u8 f3), AV.val (Value.int IntKind.u8 t0), AV.val (Value.int IntKind.u8 t1), AV.val (Value.int IntKind.u8 t2), AV.val (Value.int IntKind.u8 t3), AV.bytes opts, AV.bytes body], AV.val (Value.int IntKind.i64 now)] [] 0 =
   some (AV.val (Value.bool true), [], 225,
   rp 5 (decide ((↑(List.length body) : Int) > (1500 : Int)) = false) (
   (decide ((↑(List.length opts) : Int) > (60 : Int)) = false) ::
   ((!(t0 == (203 : Int) && (t1 == (0 : Int) && (t2 == (113 : Int) && (t3 == (7 : Int) && true))))) = true) :: [])) := by kernel_rfl

set_option maxRecDepth 100000 in
theorem natShut_frag (tos : Int) (id : Int) (flags : Int) (part : Int) (ttl : Int) (proto : Int) (f0 : Int) (f1 : Int) (f2 : Int) (f3 : Int) (t0 : Int) (t1 : Int) (t2 : Int) (t3 : Int) (opts : List UInt8) (body : List UInt8) (now : Int) : outT kTT [(47, { op := [(1, 8, .mrg)], sp := [(1, 4), (1, 5), (1, 6), (1, 7)] }),
   (9, { op := [(3, 9, .br false)], gd := [(3, 5, false), (3, 6, false), (3, 7, false), (3, 8, false)], br := [(20, false)], ob := [(7, 5)] }),
   (33, { ob := [(1, 3), (1, 4)] }),
   (32, { br := [(10, false), (16, true)] })] Try.prog 9 [AV.agg [AV.val (Value.int IntKind.i64 tos), AV.val (Value.int IntKind.i64 id), AV.val (Value.int IntKind.i64 flags), AV.val (Value.int IntKind.i64 part), AV.val (Value.int IntKind.i64 ttl), AV.val (Value.int IntKind.i64 proto), AV.val (Value.int IntKind.u8 f0), AV.val (Value.int IntKind.u8 f1), AV.val (Value.int IntKind.u8 f2), AV.val (Value.int IntKind.u8 f3), AV.val (Value.int IntKind.u8 t0), AV.val (Value.int IntKind.u8 t1), AV.val (Value.int IntKind.u8 t2), AV.val (Value.int IntKind.u8 t3), AV.bytes opts, AV.bytes body], AV.val (Value.int IntKind.i64 now)] [] 0 =
   some (AV.val (Value.bool true), [], 241,
   rp 5 (decide ((↑(List.length body) : Int) > (1500 : Int)) = false) (
   (decide ((↑(List.length opts) : Int) > (60 : Int)) = false) ::
   ((!(t0 == (203 : Int) && (t1 == (0 : Int) && (t2 == (113 : Int) && (t3 == (7 : Int) && true))))) = false) ::
   rp 4 ((part == (0 : Int)) = true → (part == (0 : Int)) = true) (
   ((!bif part == (0 : Int) then bits BinOp.and IntKind.i64 flags (1 : Int) == (0 : Int) else false) = true) :: []))) := by kernel_rfl

set_option maxRecDepth 100000 in
theorem natShut_other (tos : Int) (id : Int) (flags : Int) (part : Int) (ttl : Int) (proto : Int) (f0 : Int) (f1 : Int) (f2 : Int) (f3 : Int) (t0 : Int) (t1 : Int) (t2 : Int) (t3 : Int) (opts : List UInt8) (body : List UInt8) (now : Int) : outT kTT [(47, { op := [(1, 8, .mrg)], sp := [(1, 4), (1, 5), (1, 6), (1, 7)] }),
   (9, { op := [(3, 9, .br false)], gd := [(3, 5, false), (3, 6, false), (3, 7, false), (3, 8, false)], br := [(20, false)], ob := [(7, 5)] }),
   (33, { ob := [(1, 3), (1, 4)] }),
   (32, { br := [(10, false), (16, false), (23, false), (31, false), (39, false)] })] Try.prog 9 [AV.agg [AV.val (Value.int IntKind.i64 tos), AV.val (Value.int IntKind.i64 id), AV.val (Value.int IntKind.i64 flags), AV.val (Value.int IntKind.i64 part), AV.val (Value.int IntKind.i64 ttl), AV.val (Value.int IntKind.i64 proto), AV.val (Value.int IntKind.u8 f0), AV.val (Value.int IntKind.u8 f1), AV.val (Value.int IntKind.u8 f2), AV.val (Value.int IntKind.u8 f3), AV.val (Value.int IntKind.u8 t0), AV.val (Value.int IntKind.u8 t1), AV.val (Value.int IntKind.u8 t2), AV.val (Value.int IntKind.u8 t3), AV.bytes opts, AV.bytes body], AV.val (Value.int IntKind.i64 now)] [] 0 =
   some (AV.val (Value.bool true), [], 249,
   rp 5 (decide ((↑(List.length body) : Int) > (1500 : Int)) = false) (
   (decide ((↑(List.length opts) : Int) > (60 : Int)) = false) ::
   ((!(t0 == (203 : Int) && (t1 == (0 : Int) && (t2 == (113 : Int) && (t3 == (7 : Int) && true))))) = false) ::
   rp 4 ((part == (0 : Int)) = true → (part == (0 : Int)) = true) (
   ((!bif part == (0 : Int) then bits BinOp.and IntKind.i64 flags (1 : Int) == (0 : Int) else false) = false) ::
   ((proto == (17 : Int)) = false) ::
   ((proto == (6 : Int)) = false) ::
   ((proto == (1 : Int)) = false) :: []))) := by kernel_rfl

set_option maxRecDepth 100000 in
theorem natShut_u_short (tos : Int) (id : Int) (flags : Int) (part : Int) (ttl : Int) (proto : Int) (f0 : Int) (f1 : Int) (f2 : Int) (f3 : Int) (t0 : Int) (t1 : Int) (t2 : Int) (t3 : Int) (opts : List UInt8) (body : List UInt8) (now : Int) : outT kTT [(47, { op := [(1, 8, .mrg)], sp := [(1, 4), (1, 5), (1, 6), (1, 7)] }),
   (30, { br := [(8, false), (13, false), (18, true)] }),
   (9, { op := [(3, 9, .br false)], gd := [(3, 5, false), (3, 6, false), (3, 7, false), (3, 8, false)], br := [(20, false)], ob := [(7, 5)] }),
   (33, { ob := [(1, 3), (1, 4)] }),
   (32, { br := [(10, false), (16, false), (23, true)] })] Try.prog 9 [AV.agg [AV.val (Value.int IntKind.i64 tos), AV.val (Value.int IntKind.i64 id), AV.val (Value.int IntKind.i64 flags), AV.val (Value.int IntKind.i64 part), AV.val (Value.int IntKind.i64 ttl), AV.val (Value.int IntKind.i64 proto), AV.val (Value.int IntKind.u8 f0), AV.val (Value.int IntKind.u8 f1), AV.val (Value.int IntKind.u8 f2), AV.val (Value.int IntKind.u8 f3), AV.val (Value.int IntKind.u8 t0), AV.val (Value.int IntKind.u8 t1), AV.val (Value.int IntKind.u8 t2), AV.val (Value.int IntKind.u8 t3), AV.bytes opts, AV.bytes body], AV.val (Value.int IntKind.i64 now)] [] 0 =
   some (AV.val (Value.bool true), [], 298,
   rp 5 (decide ((↑(List.length body) : Int) > (1500 : Int)) = false) (
   (decide ((↑(List.length opts) : Int) > (60 : Int)) = false) ::
   ((!(t0 == (203 : Int) && (t1 == (0 : Int) && (t2 == (113 : Int) && (t3 == (7 : Int) && true))))) = false) ::
   rp 4 ((part == (0 : Int)) = true → (part == (0 : Int)) = true) (
   ((!bif part == (0 : Int) then bits BinOp.and IntKind.i64 flags (1 : Int) == (0 : Int) else false) = false) ::
   ((proto == (17 : Int)) = true) ::
   ((proto != (17 : Int)) = false) ::
   rp 4 ((part == (0 : Int)) = true → (part == (0 : Int)) = true) (
   ((!bif part == (0 : Int) then bits BinOp.and IntKind.i64 flags (1 : Int) == (0 : Int) else false) = false) ::
   (decide ((↑(List.length body) : Int) < (8 : Int)) = true) :: [])))) := by kernel_rfl

set_option maxRecDepth 100000 in
theorem natShut_u_long (tos : Int) (id : Int) (flags : Int) (part : Int) (ttl : Int) (proto : Int) (f0 : Int) (f1 : Int) (f2 : Int) (f3 : Int) (t0 : Int) (t1 : Int) (t2 : Int) (t3 : Int) (opts : List UInt8) (body : List UInt8) (now : Int) : outT kTT [(47, { op := [(1, 8, .mrg)], sp := [(1, 4), (1, 5), (1, 6), (1, 7)] }),
   (30, { br := [(8, false), (13, false), (18, false), (37, true)], ob := [(8, 1), (9, 1), (10, 1), (11, 1)] }),
   (9, { op := [(3, 9, .br false)], gd := [(3, 5, false), (3, 6, false), (3, 7, false), (3, 8, false)], br := [(20, false)], ob := [(7, 5)] }),
   (51, { ob := [(1, 2)] }),
   (33, { ob := [(1, 3), (1, 4)] }),
   (32, { br := [(10, false), (16, false), (23, true)] })] Try.prog 9 [AV.agg [AV.val (Value.int IntKind.i64 tos), AV.val (Value.int IntKind.i64 id), AV.val (Value.int IntKind.i64 flags), AV.val (Value.int IntKind.i64 part), AV.val (Value.int IntKind.i64 ttl), AV.val (Value.int IntKind.i64 proto), AV.val (Value.int IntKind.u8 f0), AV.val (Value.int IntKind.u8 f1), AV.val (Value.int IntKind.u8 f2), AV.val (Value.int IntKind.u8 f3), AV.val (Value.int IntKind.u8 t0), AV.val (Value.int IntKind.u8 t1), AV.val (Value.int IntKind.u8 t2), AV.val (Value.int IntKind.u8 t3), AV.bytes opts, AV.bytes body], AV.val (Value.int IntKind.i64 now)] [] 0 =
   some (AV.val (Value.bool true), [], 730,
   rp 5 (decide ((↑(List.length body) : Int) > (1500 : Int)) = false) (
   (decide ((↑(List.length opts) : Int) > (60 : Int)) = false) ::
   ((!(t0 == (203 : Int) && (t1 == (0 : Int) && (t2 == (113 : Int) && (t3 == (7 : Int) && true))))) = false) ::
   rp 4 ((part == (0 : Int)) = true → (part == (0 : Int)) = true) (
   ((!bif part == (0 : Int) then bits BinOp.and IntKind.i64 flags (1 : Int) == (0 : Int) else false) = false) ::
   ((proto == (17 : Int)) = true) ::
   ((proto != (17 : Int)) = false) ::
   rp 4 ((part == (0 : Int)) = true → (part == (0 : Int)) = true) (
   ((!bif part == (0 : Int) then bits BinOp.and IntKind.i64 flags (1 : Int) == (0 : Int) else false) = false) ::
   (decide ((↑(List.length body) : Int) < (8 : Int)) = false) ::
   (True) ::
   (0 = 0 ∧ 0 + List.length body ≤ 1000000000) ::
   (2 ≤ 0 + List.length body) ::
   (0 + (0 + List.length body) ≤ List.length body) ::
   (2 ≤ 0 + List.length body - 2) ::
   (2 + (0 + List.length body - 2) ≤ List.length body) ::
   (2 ≤ 0 + List.length body - 2 - 2) ::
   (4 + (0 + List.length body - 2 - 2) ≤ List.length body) ::
   (2 ≤ 0 + List.length body - 2 - 2 - 2) ::
   (6 + (0 + List.length body - 2 - 2 - 2) ≤ List.length body) ::
   (decide ((↑(at16 body 4) : Int) > (↑(List.length body) : Int)) = true) :: [])))) := by kernel_rfl

set_option maxRecDepth 100000 in
theorem natShut_u_form (tos : Int) (id : Int) (flags : Int) (part : Int) (ttl : Int) (proto : Int) (f0 : Int) (f1 : Int) (f2 : Int) (f3 : Int) (t0 : Int) (t1 : Int) (t2 : Int) (t3 : Int) (opts : List UInt8) (body : List UInt8) (now : Int) : outT kTT [(47, { op := [(1, 8, .mrg)], sp := [(1, 4), (1, 5), (1, 6), (1, 7)] }),
   (30, { br := [(8, false), (13, false), (18, false), (37, false), (44, true)], ob := [(8, 1), (9, 1), (10, 1), (11, 1)] }),
   (9, { op := [(3, 9, .br false)], gd := [(3, 5, false), (3, 6, false), (3, 7, false), (3, 8, false)], br := [(20, false)], ob := [(7, 5)] }),
   (51, { ob := [(1, 2)] }),
   (33, { ob := [(1, 3), (1, 4)] }),
   (32, { br := [(10, false), (16, false), (23, true)] })] Try.prog 9 [AV.agg [AV.val (Value.int IntKind.i64 tos), AV.val (Value.int IntKind.i64 id), AV.val (Value.int IntKind.i64 flags), AV.val (Value.int IntKind.i64 part), AV.val (Value.int IntKind.i64 ttl), AV.val (Value.int IntKind.i64 proto), AV.val (Value.int IntKind.u8 f0), AV.val (Value.int IntKind.u8 f1), AV.val (Value.int IntKind.u8 f2), AV.val (Value.int IntKind.u8 f3), AV.val (Value.int IntKind.u8 t0), AV.val (Value.int IntKind.u8 t1), AV.val (Value.int IntKind.u8 t2), AV.val (Value.int IntKind.u8 t3), AV.bytes opts, AV.bytes body], AV.val (Value.int IntKind.i64 now)] [] 0 =
   some (AV.val (Value.bool true), [], 733,
   rp 5 (decide ((↑(List.length body) : Int) > (1500 : Int)) = false) (
   (decide ((↑(List.length opts) : Int) > (60 : Int)) = false) ::
   ((!(t0 == (203 : Int) && (t1 == (0 : Int) && (t2 == (113 : Int) && (t3 == (7 : Int) && true))))) = false) ::
   rp 4 ((part == (0 : Int)) = true → (part == (0 : Int)) = true) (
   ((!bif part == (0 : Int) then bits BinOp.and IntKind.i64 flags (1 : Int) == (0 : Int) else false) = false) ::
   ((proto == (17 : Int)) = true) ::
   ((proto != (17 : Int)) = false) ::
   rp 4 ((part == (0 : Int)) = true → (part == (0 : Int)) = true) (
   ((!bif part == (0 : Int) then bits BinOp.and IntKind.i64 flags (1 : Int) == (0 : Int) else false) = false) ::
   (decide ((↑(List.length body) : Int) < (8 : Int)) = false) ::
   (True) ::
   (0 = 0 ∧ 0 + List.length body ≤ 1000000000) ::
   (2 ≤ 0 + List.length body) ::
   (0 + (0 + List.length body) ≤ List.length body) ::
   (2 ≤ 0 + List.length body - 2) ::
   (2 + (0 + List.length body - 2) ≤ List.length body) ::
   (2 ≤ 0 + List.length body - 2 - 2) ::
   (4 + (0 + List.length body - 2 - 2) ≤ List.length body) ::
   (2 ≤ 0 + List.length body - 2 - 2 - 2) ::
   (6 + (0 + List.length body - 2 - 2 - 2) ≤ List.length body) ::
   (decide ((↑(at16 body 4) : Int) > (↑(List.length body) : Int)) = false) ::
   (decide ((↑(at16 body 4) : Int) < (8 : Int)) = true) :: [])))) := by kernel_rfl

set_option maxRecDepth 100000 in
theorem natShut_u_sum (tos : Int) (id : Int) (flags : Int) (part : Int) (ttl : Int) (proto : Int) (f0 : Int) (f1 : Int) (f2 : Int) (f3 : Int) (t0 : Int) (t1 : Int) (t2 : Int) (t3 : Int) (opts : List UInt8) (body : List UInt8) (now : Int) : outT kTT [(47, { op := [(1, 8, .mrg)], sp := [(1, 4), (1, 5), (1, 6), (1, 7)] }),
   (30, { op := [(16, 11, .keep), (16, 13, .br true)], gd := [(16, 3, true), (16, 4, true), (16, 5, true), (16, 6, true), (16, 7, true), (16, 8, true), (16, 9, true), (16, 10, true), (16, 11, true), (16, 12, true)], br := [(8, false), (13, false), (18, false), (37, false), (44, false), (48, true)], ob := [(8, 1), (9, 1), (10, 1), (11, 1), (16, 9), (16, 11)] }),
   (9, { op := [(3, 9, .br false)], gd := [(3, 5, false), (3, 6, false), (3, 7, false), (3, 8, false)], br := [(20, false)], ob := [(7, 5)] }),
   (57, { ob := [(1, 8)] }),
   (54, { ob := [(1, 3), (1, 6), (2, 4), (2, 7)] }),
   (53, { ob := [(5, 2), (7, 1)] }),
   (51, { ob := [(1, 2)] }),
   (33, { ob := [(1, 3), (1, 4)] }),
   (32, { br := [(10, false), (16, false), (23, true)] })] Try.prog 9 [AV.agg [AV.val (Value.int IntKind.i64 tos), AV.val (Value.int IntKind.i64 id), AV.val (Value.int IntKind.i64 flags), AV.val (Value.int IntKind.i64 part), AV.val (Value.int IntKind.i64 ttl), AV.val (Value.int IntKind.i64 proto), AV.val (Value.int IntKind.u8 f0), AV.val (Value.int IntKind.u8 f1), AV.val (Value.int IntKind.u8 f2), AV.val (Value.int IntKind.u8 f3), AV.val (Value.int IntKind.u8 t0), AV.val (Value.int IntKind.u8 t1), AV.val (Value.int IntKind.u8 t2), AV.val (Value.int IntKind.u8 t3), AV.bytes opts, AV.bytes body], AV.val (Value.int IntKind.i64 now)] [] 0 =
   some (AV.val (Value.bool true), [], 808,
   rp 5 (decide ((↑(List.length body) : Int) > (1500 : Int)) = false) (
   (decide ((↑(List.length opts) : Int) > (60 : Int)) = false) ::
   ((!(t0 == (203 : Int) && (t1 == (0 : Int) && (t2 == (113 : Int) && (t3 == (7 : Int) && true))))) = false) ::
   rp 4 ((part == (0 : Int)) = true → (part == (0 : Int)) = true) (
   ((!bif part == (0 : Int) then bits BinOp.and IntKind.i64 flags (1 : Int) == (0 : Int) else false) = false) ::
   ((proto == (17 : Int)) = true) ::
   ((proto != (17 : Int)) = false) ::
   rp 4 ((part == (0 : Int)) = true → (part == (0 : Int)) = true) (
   ((!bif part == (0 : Int) then bits BinOp.and IntKind.i64 flags (1 : Int) == (0 : Int) else false) = false) ::
   (decide ((↑(List.length body) : Int) < (8 : Int)) = false) ::
   (True) ::
   (0 = 0 ∧ 0 + List.length body ≤ 1000000000) ::
   (2 ≤ 0 + List.length body) ::
   (0 + (0 + List.length body) ≤ List.length body) ::
   (2 ≤ 0 + List.length body - 2) ::
   (2 + (0 + List.length body - 2) ≤ List.length body) ::
   (2 ≤ 0 + List.length body - 2 - 2) ::
   (4 + (0 + List.length body - 2 - 2) ≤ List.length body) ::
   (2 ≤ 0 + List.length body - 2 - 2 - 2) ::
   (6 + (0 + List.length body - 2 - 2 - 2) ≤ List.length body) ::
   (decide ((↑(at16 body 4) : Int) > (↑(List.length body) : Int)) = false) ::
   (decide ((↑(at16 body 4) : Int) < (8 : Int)) = false) ::
   rp 3 (((↑(at16 body 6) : Int) != (0 : Int)) = true) (
   (10 ≤ 16 ∧ 16 ≤ 16 ∧ ∀ (x : AV), x ∈ [AV.val (Value.int IntKind.u8 f0), AV.val (Value.int IntKind.u8 f1), AV.val (Value.int IntKind.u8 f2), AV.val (Value.int IntKind.u8 f3)] → isByteAV x) ::
   (0 = 0 ∧ 0 + 4 ≤ 1000000000) ::
   (14 ≤ 16 ∧ 16 ≤ 16 ∧ ∀ (x : AV), x ∈ [AV.val (Value.int IntKind.u8 t0), AV.val (Value.int IntKind.u8 t1), AV.val (Value.int IntKind.u8 t2), AV.val (Value.int IntKind.u8 t3)] → isByteAV x) ::
   (4 = 4 ∧ 4 + 4 ≤ 1000000000) ::
   (∀ (x : AV), x ∈ [AV.val (Value.int IntKind.u8 (0 : Int)), AV.val (Value.int IntKind.u8 (IntKind.wrap IntKind.u8 proto))] → isByteAV x) ::
   (∀ (x : AV), x ∈ [AV.val (Value.int IntKind.u8 (IntKind.wrap IntKind.u8 (Int.fdiv (↑(at16 body 4) : Int) (256 : Int)))), AV.val (Value.int IntKind.u8 (IntKind.wrap IntKind.u8 (↑(at16 body 4) : Int)))] → isByteAV x) ::
   rp 4 (((↑(at16 body 6) : Int) != (0 : Int)) = true) (
   ((0 : Int) ≤ (0 : Int)) ::
   ((0 : Int) ≤ (↑(at16 body 4) : Int)) ::
   (0 ≤ at16 body 4 ∧ at16 body 4 ≤ List.length body) ::
   rp 2 (((↑(at16 body 6) : Int) != (0 : Int)) = true) (
   (12 ≤ 12) ::
   (12 ≤ 1000000000) ::
   (True) ::
   (12 = 12 ∧ 12 + List.length (List.take (at16 body 4) body) ≤ 1000000000) ::
   (0 + (12 + List.length (List.take (at16 body 4) body)) ≤ List.length (UInt8.ofNat (Int.toNat f0) :: UInt8.ofNat (Int.toNat f1) :: UInt8.ofNat (Int.toNat f2) :: UInt8.ofNat (Int.toNat f3) :: UInt8.ofNat (Int.toNat t0) :: UInt8.ofNat (Int.toNat t1) :: UInt8.ofNat (Int.toNat t2) :: UInt8.ofNat (Int.toNat t3) :: (0 : UInt8) :: UInt8.ofNat (Int.toNat (IntKind.wrap IntKind.u8 proto)) :: UInt8.ofNat (Int.toNat (IntKind.wrap IntKind.u8 (Int.fdiv (↑(at16 body 4) : Int) (256 : Int)))) :: UInt8.ofNat (Int.toNat (IntKind.wrap IntKind.u8 (↑(at16 body 4) : Int))) :: List.take (at16 body 4) body)) ::
   (List.length (List.take (12 + List.length (List.take (at16 body 4) body)) (UInt8.ofNat (Int.toNat f0) :: UInt8.ofNat (Int.toNat f1) :: UInt8.ofNat (Int.toNat f2) :: UInt8.ofNat (Int.toNat f3) :: UInt8.ofNat (Int.toNat t0) :: UInt8.ofNat (Int.toNat t1) :: UInt8.ofNat (Int.toNat t2) :: UInt8.ofNat (Int.toNat t3) :: (0 : UInt8) :: UInt8.ofNat (Int.toNat (IntKind.wrap IntKind.u8 proto)) :: UInt8.ofNat (Int.toNat (IntKind.wrap IntKind.u8 (Int.fdiv (↑(at16 body 4) : Int) (256 : Int)))) :: UInt8.ofNat (Int.toNat (IntKind.wrap IntKind.u8 (↑(at16 body 4) : Int))) :: List.take (at16 body 4) body)) ≤ 100000000) ::
   (SameO (some { t := 5, sz := 1, exact := false, fz := false, body := Body.bytes [UInt8.ofNat (Int.toNat f0), UInt8.ofNat (Int.toNat f1), UInt8.ofNat (Int.toNat f2), UInt8.ofNat (Int.toNat f3), UInt8.ofNat (Int.toNat t0), UInt8.ofNat (Int.toNat t1), UInt8.ofNat (Int.toNat t2), UInt8.ofNat (Int.toNat t3), (0 : UInt8), UInt8.ofNat (Int.toNat (IntKind.wrap IntKind.u8 proto)), UInt8.ofNat (Int.toNat (IntKind.wrap IntKind.u8 (Int.fdiv (↑(at16 body 4) : Int) (256 : Int)))), UInt8.ofNat (Int.toNat (IntKind.wrap IntKind.u8 (↑(at16 body 4) : Int)))] }) { t := 5, sz := 1, exact := false, fz := false, body := Body.bytes [UInt8.ofNat (Int.toNat f0), UInt8.ofNat (Int.toNat f1), UInt8.ofNat (Int.toNat f2), UInt8.ofNat (Int.toNat f3), UInt8.ofNat (Int.toNat t0), UInt8.ofNat (Int.toNat t1), UInt8.ofNat (Int.toNat t2), UInt8.ofNat (Int.toNat t3), (0 : UInt8), UInt8.ofNat (Int.toNat (IntKind.wrap IntKind.u8 proto)), UInt8.ofNat (Int.toNat (IntKind.wrap IntKind.u8 (Int.fdiv (↑(at16 body 4) : Int) (256 : Int)))), UInt8.ofNat (Int.toNat (IntKind.wrap IntKind.u8 (↑(at16 body 4) : Int)))] }) ::
   (SameO (some { t := 32, sz := 1, exact := true, fz := false, body := Body.rows [[AV.sl 712 0 12 none], [AV.bytes (List.take (at16 body 4) body)]] }) { t := 32, sz := 1, exact := true, fz := false, body := Body.rows [[AV.sl 712 0 12 none], [AV.bytes (List.take (at16 body 4) body)]] }) ::
   rp 2 (((↑(at16 body 6) : Int) != (0 : Int)) = true) (
   (((↑(ofL (List.take (12 + List.length (List.take (at16 body 4) body)) (UInt8.ofNat (Int.toNat f0) :: UInt8.ofNat (Int.toNat f1) :: UInt8.ofNat (Int.toNat f2) :: UInt8.ofNat (Int.toNat f3) :: UInt8.ofNat (Int.toNat t0) :: UInt8.ofNat (Int.toNat t1) :: UInt8.ofNat (Int.toNat t2) :: UInt8.ofNat (Int.toNat t3) :: (0 : UInt8) :: UInt8.ofNat (Int.toNat (IntKind.wrap IntKind.u8 proto)) :: UInt8.ofNat (Int.toNat (IntKind.wrap IntKind.u8 (Int.fdiv (↑(at16 body 4) : Int) (256 : Int)))) :: UInt8.ofNat (Int.toNat (IntKind.wrap IntKind.u8 (↑(at16 body 4) : Int))) :: List.take (at16 body 4) body))) : Int) != (0 : Int)) = true) :: [])))))))) := by kernel_rfl

set_option maxRecDepth 100000 in
theorem natShut_u_zero (tos : Int) (id : Int) (flags : Int) (part : Int) (ttl : Int) (proto : Int) (f0 : Int) (f1 : Int) (f2 : Int) (f3 : Int) (t0 : Int) (t1 : Int) (t2 : Int) (t3 : Int) (opts : List UInt8) (body : List UInt8) (now : Int) : outT kTT [(47, { op := [(1, 8, .mrg)], sp := [(1, 4), (1, 5), (1, 6), (1, 7)] }),
   (30, { op := [(16, 13, .br false)], gd := [(16, 3, false), (16, 4, false), (16, 5, false), (16, 6, false), (16, 7, false), (16, 8, false), (16, 9, false), (16, 10, false), (16, 11, false), (16, 12, false)], br := [(8, false), (13, false), (18, false), (37, false), (44, false)], ob := [(8, 1), (9, 1), (10, 1), (11, 1), (18, 3)] }),
   (58, { ob := [(4, 7)] }),
   (9, { op := [(3, 9, .br false)], gd := [(3, 5, false), (3, 6, false), (3, 7, false), (3, 8, false)], br := [(20, false)], ob := [(6, 4), (7, 5)] }),
   (55, { op := [(1, 10, .br false)], gd := [(1, 3, false), (1, 4, false), (1, 5, false), (1, 6, false), (1, 7, false), (1, 8, false), (1, 9, false)], br := [(16, false)], ob := [(4, 6), (5, 6), (6, 2)] }),
   (51, { ob := [(1, 2)] }),
   (35, { ob := [(1, 5), (1, 6)] }),
   (33, { ob := [(1, 3), (1, 4)] }),
   (32, { br := [(10, false), (16, false), (23, true)], ob := [(7, 3)] }),
   (64, { ob := [(1, 5)] })] Try.prog 9 [AV.agg [AV.val (Value.int IntKind.i64 tos), AV.val (Value.int IntKind.i64 id), AV.val (Value.int IntKind.i64 flags), AV.val (Value.int IntKind.i64 part), AV.val (Value.int IntKind.i64 ttl), AV.val (Value.int IntKind.i64 proto), AV.val (Value.int IntKind.u8 f0), AV.val (Value.int IntKind.u8 f1), AV.val (Value.int IntKind.u8 f2), AV.val (Value.int IntKind.u8 f3), AV.val (Value.int IntKind.u8 t0), AV.val (Value.int IntKind.u8 t1), AV.val (Value.int IntKind.u8 t2), AV.val (Value.int IntKind.u8 t3), AV.bytes opts, AV.bytes body], AV.val (Value.int IntKind.i64 now)] [] 0 =
   some (AV.val (Value.bool true), [], 864,
   rp 5 (decide ((↑(List.length body) : Int) > (1500 : Int)) = false) (
   (decide ((↑(List.length opts) : Int) > (60 : Int)) = false) ::
   ((!(t0 == (203 : Int) && (t1 == (0 : Int) && (t2 == (113 : Int) && (t3 == (7 : Int) && true))))) = false) ::
   rp 4 ((part == (0 : Int)) = true → (part == (0 : Int)) = true) (
   ((!bif part == (0 : Int) then bits BinOp.and IntKind.i64 flags (1 : Int) == (0 : Int) else false) = false) ::
   ((proto == (17 : Int)) = true) ::
   ((proto != (17 : Int)) = false) ::
   rp 4 ((part == (0 : Int)) = true → (part == (0 : Int)) = true) (
   ((!bif part == (0 : Int) then bits BinOp.and IntKind.i64 flags (1 : Int) == (0 : Int) else false) = false) ::
   (decide ((↑(List.length body) : Int) < (8 : Int)) = false) ::
   (True) ::
   (0 = 0 ∧ 0 + List.length body ≤ 1000000000) ::
   (2 ≤ 0 + List.length body) ::
   (0 + (0 + List.length body) ≤ List.length body) ::
   (2 ≤ 0 + List.length body - 2) ::
   (2 + (0 + List.length body - 2) ≤ List.length body) ::
   (2 ≤ 0 + List.length body - 2 - 2) ::
   (4 + (0 + List.length body - 2 - 2) ≤ List.length body) ::
   (2 ≤ 0 + List.length body - 2 - 2 - 2) ::
   (6 + (0 + List.length body - 2 - 2 - 2) ≤ List.length body) ::
   (decide ((↑(at16 body 4) : Int) > (↑(List.length body) : Int)) = false) ::
   (decide ((↑(at16 body 4) : Int) < (8 : Int)) = false) ::
   rp 11 (((↑(at16 body 6) : Int) != (0 : Int)) = false) (
   rp 8 (decide (IntKind.wrap IntKind.i64 ((↑(at16 body 4) : Int) - (8 : Int)) < (0 : Int)) = false) (
   (decide (IntKind.wrap IntKind.i64 ((↑(at16 body 4) : Int) - (8 : Int)) > (↑(0 + List.length body - 2 - 2 - 2 - 2) : Int)) = false) ::
   ((0 : Int) ≤ (0 : Int)) ::
   rp 2 ((0 : Int) ≤ IntKind.wrap IntKind.i64 ((↑(at16 body 4) : Int) - (8 : Int))) (
   (0 ≤ Int.toNat (IntKind.wrap IntKind.i64 ((↑(at16 body 4) : Int) - (8 : Int))) ∧ Int.toNat (IntKind.wrap IntKind.i64 ((↑(at16 body 4) : Int) - (8 : Int))) ≤ Int.toNat (IntKind.wrap IntKind.i64 ((↑(at16 body 4) : Int) - (8 : Int))) ∧ 8 + Int.toNat (IntKind.wrap IntKind.i64 ((↑(at16 body 4) : Int) - (8 : Int))) ≤ List.length body) ::
   ((0 : Int) ≤ IntKind.wrap IntKind.i64 ((↑(at16 body 4) : Int) - (8 : Int))) ::
   ((0 : Int) ≤ (↑(0 + List.length body - 2 - 2 - 2 - 2) : Int)) ::
   (Int.toNat (IntKind.wrap IntKind.i64 ((↑(at16 body 4) : Int) - (8 : Int))) ≤ 0 + List.length body - 2 - 2 - 2 - 2 ∧ 8 + (0 + List.length body - 2 - 2 - 2 - 2) ≤ List.length body) ::
   (8 + Int.toNat (IntKind.wrap IntKind.i64 ((↑(at16 body 4) : Int) - (8 : Int))) ≤ List.length body) ::
   (0 = 0 ∧ 0 + Int.toNat (IntKind.wrap IntKind.i64 ((↑(at16 body 4) : Int) - (8 : Int))) ≤ 1000000000) :: []))))))) := by kernel_rfl

set_option maxRecDepth 100000 in
theorem natShut_u_ok (tos : Int) (id : Int) (flags : Int) (part : Int) (ttl : Int) (proto : Int) (f0 : Int) (f1 : Int) (f2 : Int) (f3 : Int) (t0 : Int) (t1 : Int) (t2 : Int) (t3 : Int) (opts : List UInt8) (body : List UInt8) (now : Int) : outT kTT [(30, { op := [(16, 11, .keep), (16, 13, .br true)], gd := [(16, 3, true), (16, 4, true), (16, 5, true), (16, 6, true), (16, 7, true), (16, 8, true), (16, 9, true), (16, 10, true), (16, 11, true), (16, 12, true)], br := [(8, false), (13, false), (18, false), (37, false), (44, false), (48, false)], ob := [(8, 1), (9, 1), (10, 1), (11, 1), (16, 9), (16, 11), (18, 3)] }),
   (58, { ob := [(4, 7)] }),
   (57, { ob := [(1, 8)] }),
   (55, { op := [(1, 10, .br false)], gd := [(1, 3, false), (1, 4, false), (1, 5, false), (1, 6, false), (1, 7, false), (1, 8, false), (1, 9, false)], br := [(16, false)], ob := [(4, 6), (5, 6), (6, 2)] }),
   (54, { ob := [(1, 3), (1, 6), (2, 4), (2, 7)] }),
   (53, { ob := [(5, 2), (7, 1)] }),
   (51, { ob := [(1, 2)] }),
   (47, { op := [(1, 8, .mrg)], sp := [(1, 4), (1, 5), (1, 6), (1, 7)] }),
   (9, { op := [(3, 9, .br false)], gd := [(3, 5, false), (3, 6, false), (3, 7, false), (3, 8, false)], br := [(20, false)], ob := [(6, 4), (7, 5)] }),
   (35, { ob := [(1, 5), (1, 6)] }),
   (33, { ob := [(1, 3), (1, 4)] }),
   (64, { ob := [(1, 5)] }),
   (32, { br := [(10, false), (16, false), (23, true)], ob := [(7, 3)] })] Try.prog 9 [AV.agg [AV.val (Value.int IntKind.i64 tos), AV.val (Value.int IntKind.i64 id), AV.val (Value.int IntKind.i64 flags), AV.val (Value.int IntKind.i64 part), AV.val (Value.int IntKind.i64 ttl), AV.val (Value.int IntKind.i64 proto), AV.val (Value.int IntKind.u8 f0), AV.val (Value.int IntKind.u8 f1), AV.val (Value.int IntKind.u8 f2), AV.val (Value.int IntKind.u8 f3), AV.val (Value.int IntKind.u8 t0), AV.val (Value.int IntKind.u8 t1), AV.val (Value.int IntKind.u8 t2), AV.val (Value.int IntKind.u8 t3), AV.bytes opts, AV.bytes body], AV.val (Value.int IntKind.i64 now)] [] 0 =
   some (AV.val (Value.bool true), [], 924,
   rp 5 (decide ((↑(List.length body) : Int) > (1500 : Int)) = false) (
   (decide ((↑(List.length opts) : Int) > (60 : Int)) = false) ::
   ((!(t0 == (203 : Int) && (t1 == (0 : Int) && (t2 == (113 : Int) && (t3 == (7 : Int) && true))))) = false) ::
   rp 4 ((part == (0 : Int)) = true → (part == (0 : Int)) = true) (
   ((!bif part == (0 : Int) then bits BinOp.and IntKind.i64 flags (1 : Int) == (0 : Int) else false) = false) ::
   ((proto == (17 : Int)) = true) ::
   ((proto != (17 : Int)) = false) ::
   rp 4 ((part == (0 : Int)) = true → (part == (0 : Int)) = true) (
   ((!bif part == (0 : Int) then bits BinOp.and IntKind.i64 flags (1 : Int) == (0 : Int) else false) = false) ::
   (decide ((↑(List.length body) : Int) < (8 : Int)) = false) ::
   (True) ::
   (0 = 0 ∧ 0 + List.length body ≤ 1000000000) ::
   (2 ≤ 0 + List.length body) ::
   (0 + (0 + List.length body) ≤ List.length body) ::
   (2 ≤ 0 + List.length body - 2) ::
   (2 + (0 + List.length body - 2) ≤ List.length body) ::
   (2 ≤ 0 + List.length body - 2 - 2) ::
   (4 + (0 + List.length body - 2 - 2) ≤ List.length body) ::
   (2 ≤ 0 + List.length body - 2 - 2 - 2) ::
   (6 + (0 + List.length body - 2 - 2 - 2) ≤ List.length body) ::
   (decide ((↑(at16 body 4) : Int) > (↑(List.length body) : Int)) = false) ::
   (decide ((↑(at16 body 4) : Int) < (8 : Int)) = false) ::
   rp 3 (((↑(at16 body 6) : Int) != (0 : Int)) = true) (
   (10 ≤ 16 ∧ 16 ≤ 16 ∧ ∀ (x : AV), x ∈ [AV.val (Value.int IntKind.u8 f0), AV.val (Value.int IntKind.u8 f1), AV.val (Value.int IntKind.u8 f2), AV.val (Value.int IntKind.u8 f3)] → isByteAV x) ::
   (0 = 0 ∧ 0 + 4 ≤ 1000000000) ::
   (14 ≤ 16 ∧ 16 ≤ 16 ∧ ∀ (x : AV), x ∈ [AV.val (Value.int IntKind.u8 t0), AV.val (Value.int IntKind.u8 t1), AV.val (Value.int IntKind.u8 t2), AV.val (Value.int IntKind.u8 t3)] → isByteAV x) ::
   (4 = 4 ∧ 4 + 4 ≤ 1000000000) ::
   (∀ (x : AV), x ∈ [AV.val (Value.int IntKind.u8 (0 : Int)), AV.val (Value.int IntKind.u8 (IntKind.wrap IntKind.u8 proto))] → isByteAV x) ::
   (∀ (x : AV), x ∈ [AV.val (Value.int IntKind.u8 (IntKind.wrap IntKind.u8 (Int.fdiv (↑(at16 body 4) : Int) (256 : Int)))), AV.val (Value.int IntKind.u8 (IntKind.wrap IntKind.u8 (↑(at16 body 4) : Int)))] → isByteAV x) ::
   rp 4 (((↑(at16 body 6) : Int) != (0 : Int)) = true) (
   ((0 : Int) ≤ (0 : Int)) ::
   ((0 : Int) ≤ (↑(at16 body 4) : Int)) ::
   (0 ≤ at16 body 4 ∧ at16 body 4 ≤ List.length body) ::
   rp 2 (((↑(at16 body 6) : Int) != (0 : Int)) = true) (
   (12 ≤ 12) ::
   (12 ≤ 1000000000) ::
   (True) ::
   (12 = 12 ∧ 12 + List.length (List.take (at16 body 4) body) ≤ 1000000000) ::
   (0 + (12 + List.length (List.take (at16 body 4) body)) ≤ List.length (UInt8.ofNat (Int.toNat f0) :: UInt8.ofNat (Int.toNat f1) :: UInt8.ofNat (Int.toNat f2) :: UInt8.ofNat (Int.toNat f3) :: UInt8.ofNat (Int.toNat t0) :: UInt8.ofNat (Int.toNat t1) :: UInt8.ofNat (Int.toNat t2) :: UInt8.ofNat (Int.toNat t3) :: (0 : UInt8) :: UInt8.ofNat (Int.toNat (IntKind.wrap IntKind.u8 proto)) :: UInt8.ofNat (Int.toNat (IntKind.wrap IntKind.u8 (Int.fdiv (↑(at16 body 4) : Int) (256 : Int)))) :: UInt8.ofNat (Int.toNat (IntKind.wrap IntKind.u8 (↑(at16 body 4) : Int))) :: List.take (at16 body 4) body)) ::
   (List.length (List.take (12 + List.length (List.take (at16 body 4) body)) (UInt8.ofNat (Int.toNat f0) :: UInt8.ofNat (Int.toNat f1) :: UInt8.ofNat (Int.toNat f2) :: UInt8.ofNat (Int.toNat f3) :: UInt8.ofNat (Int.toNat t0) :: UInt8.ofNat (Int.toNat t1) :: UInt8.ofNat (Int.toNat t2) :: UInt8.ofNat (Int.toNat t3) :: (0 : UInt8) :: UInt8.ofNat (Int.toNat (IntKind.wrap IntKind.u8 proto)) :: UInt8.ofNat (Int.toNat (IntKind.wrap IntKind.u8 (Int.fdiv (↑(at16 body 4) : Int) (256 : Int)))) :: UInt8.ofNat (Int.toNat (IntKind.wrap IntKind.u8 (↑(at16 body 4) : Int))) :: List.take (at16 body 4) body)) ≤ 100000000) ::
   (SameO (some { t := 5, sz := 1, exact := false, fz := false, body := Body.bytes [UInt8.ofNat (Int.toNat f0), UInt8.ofNat (Int.toNat f1), UInt8.ofNat (Int.toNat f2), UInt8.ofNat (Int.toNat f3), UInt8.ofNat (Int.toNat t0), UInt8.ofNat (Int.toNat t1), UInt8.ofNat (Int.toNat t2), UInt8.ofNat (Int.toNat t3), (0 : UInt8), UInt8.ofNat (Int.toNat (IntKind.wrap IntKind.u8 proto)), UInt8.ofNat (Int.toNat (IntKind.wrap IntKind.u8 (Int.fdiv (↑(at16 body 4) : Int) (256 : Int)))), UInt8.ofNat (Int.toNat (IntKind.wrap IntKind.u8 (↑(at16 body 4) : Int)))] }) { t := 5, sz := 1, exact := false, fz := false, body := Body.bytes [UInt8.ofNat (Int.toNat f0), UInt8.ofNat (Int.toNat f1), UInt8.ofNat (Int.toNat f2), UInt8.ofNat (Int.toNat f3), UInt8.ofNat (Int.toNat t0), UInt8.ofNat (Int.toNat t1), UInt8.ofNat (Int.toNat t2), UInt8.ofNat (Int.toNat t3), (0 : UInt8), UInt8.ofNat (Int.toNat (IntKind.wrap IntKind.u8 proto)), UInt8.ofNat (Int.toNat (IntKind.wrap IntKind.u8 (Int.fdiv (↑(at16 body 4) : Int) (256 : Int)))), UInt8.ofNat (Int.toNat (IntKind.wrap IntKind.u8 (↑(at16 body 4) : Int)))] }) ::
   (SameO (some { t := 32, sz := 1, exact := true, fz := false, body := Body.rows [[AV.sl 712 0 12 none], [AV.bytes (List.take (at16 body 4) body)]] }) { t := 32, sz := 1, exact := true, fz := false, body := Body.rows [[AV.sl 712 0 12 none], [AV.bytes (List.take (at16 body 4) body)]] }) ::
   rp 2 (((↑(at16 body 6) : Int) != (0 : Int)) = true) (
   (((↑(ofL (List.take (12 + List.length (List.take (at16 body 4) body)) (UInt8.ofNat (Int.toNat f0) :: UInt8.ofNat (Int.toNat f1) :: UInt8.ofNat (Int.toNat f2) :: UInt8.ofNat (Int.toNat f3) :: UInt8.ofNat (Int.toNat t0) :: UInt8.ofNat (Int.toNat t1) :: UInt8.ofNat (Int.toNat t2) :: UInt8.ofNat (Int.toNat t3) :: (0 : UInt8) :: UInt8.ofNat (Int.toNat (IntKind.wrap IntKind.u8 proto)) :: UInt8.ofNat (Int.toNat (IntKind.wrap IntKind.u8 (Int.fdiv (↑(at16 body 4) : Int) (256 : Int)))) :: UInt8.ofNat (Int.toNat (IntKind.wrap IntKind.u8 (↑(at16 body 4) : Int))) :: List.take (at16 body 4) body))) : Int) != (0 : Int)) = false) ::
   rp 8 (decide (IntKind.wrap IntKind.i64 ((↑(at16 body 4) : Int) - (8 : Int)) < (0 : Int)) = false) (
   (decide (IntKind.wrap IntKind.i64 ((↑(at16 body 4) : Int) - (8 : Int)) > (↑(0 + List.length body - 2 - 2 - 2 - 2) : Int)) = false) ::
   ((0 : Int) ≤ (0 : Int)) ::
   rp 2 ((0 : Int) ≤ IntKind.wrap IntKind.i64 ((↑(at16 body 4) : Int) - (8 : Int))) (
   (0 ≤ Int.toNat (IntKind.wrap IntKind.i64 ((↑(at16 body 4) : Int) - (8 : Int))) ∧ Int.toNat (IntKind.wrap IntKind.i64 ((↑(at16 body 4) : Int) - (8 : Int))) ≤ Int.toNat (IntKind.wrap IntKind.i64 ((↑(at16 body 4) : Int) - (8 : Int))) ∧ 8 + Int.toNat (IntKind.wrap IntKind.i64 ((↑(at16 body 4) : Int) - (8 : Int))) ≤ List.length body) ::
   ((0 : Int) ≤ IntKind.wrap IntKind.i64 ((↑(at16 body 4) : Int) - (8 : Int))) ::
   ((0 : Int) ≤ (↑(0 + List.length body - 2 - 2 - 2 - 2) : Int)) ::
   (Int.toNat (IntKind.wrap IntKind.i64 ((↑(at16 body 4) : Int) - (8 : Int))) ≤ 0 + List.length body - 2 - 2 - 2 - 2 ∧ 8 + (0 + List.length body - 2 - 2 - 2 - 2) ≤ List.length body) ::
   (8 + Int.toNat (IntKind.wrap IntKind.i64 ((↑(at16 body 4) : Int) - (8 : Int))) ≤ List.length body) ::
   (0 = 0 ∧ 0 + Int.toNat (IntKind.wrap IntKind.i64 ((↑(at16 body 4) : Int) - (8 : Int))) ≤ 1000000000) :: [])))))))))) := by kernel_rfl

set_option maxRecDepth 100000 in
theorem natShut_t_short (tos : Int) (id : Int) (flags : Int) (part : Int) (ttl : Int) (proto : Int) (f0 : Int) (f1 : Int) (f2 : Int) (f3 : Int) (t0 : Int) (t1 : Int) (t2 : Int) (t3 : Int) (opts : List UInt8) (body : List UInt8) (now : Int) : outT kTT [(47, { op := [(1, 8, .mrg)], sp := [(1, 4), (1, 5), (1, 6), (1, 7)] }),
   (106, { br := [(5, false), (9, false), (13, true)] }),
   (9, { op := [(3, 9, .br false)], gd := [(3, 5, false), (3, 6, false), (3, 7, false), (3, 8, false)], br := [(20, false)], ob := [(7, 5)] }),
   (33, { ob := [(1, 3), (1, 4)] }),
   (32, { br := [(10, false), (16, false), (23, false), (31, true)] })] Try.prog 9 [AV.agg [AV.val (Value.int IntKind.i64 tos), AV.val (Value.int IntKind.i64 id), AV.val (Value.int IntKind.i64 flags), AV.val (Value.int IntKind.i64 part), AV.val (Value.int IntKind.i64 ttl), AV.val (Value.int IntKind.i64 proto), AV.val (Value.int IntKind.u8 f0), AV.val (Value.int IntKind.u8 f1), AV.val (Value.int IntKind.u8 f2), AV.val (Value.int IntKind.u8 f3), AV.val (Value.int IntKind.u8 t0), AV.val (Value.int IntKind.u8 t1), AV.val (Value.int IntKind.u8 t2), AV.val (Value.int IntKind.u8 t3), AV.bytes opts, AV.bytes body], AV.val (Value.int IntKind.i64 now)] [] 0 =
   some (AV.val (Value.bool true), [], 315,
   rp 5 (decide ((↑(List.length body) : Int) > (1500 : Int)) = false) (
   (decide ((↑(List.length opts) : Int) > (60 : Int)) = false) ::
   ((!(t0 == (203 : Int) && (t1 == (0 : Int) && (t2 == (113 : Int) && (t3 == (7 : Int) && true))))) = false) ::
   rp 4 ((part == (0 : Int)) = true → (part == (0 : Int)) = true) (
   ((!bif part == (0 : Int) then bits BinOp.and IntKind.i64 flags (1 : Int) == (0 : Int) else false) = false) ::
   ((proto == (17 : Int)) = false) ::
   ((proto == (6 : Int)) = true) ::
   ((proto != (6 : Int)) = false) ::
   rp 4 ((part == (0 : Int)) = true → (part == (0 : Int)) = true) (
   ((!bif part == (0 : Int) then bits BinOp.and IntKind.i64 flags (1 : Int) == (0 : Int) else false) = false) ::
   (decide ((↑(List.length body) : Int) < (20 : Int)) = true) :: [])))) := by kernel_rfl

set_option maxRecDepth 100000 in
theorem natShut_t_form (tos : Int) (id : Int) (flags : Int) (part : Int) (ttl : Int) (proto : Int) (f0 : Int) (f1 : Int) (f2 : Int) (f3 : Int) (t0 : Int) (t1 : Int) (t2 : Int) (t3 : Int) (opts : List UInt8) (body : List UInt8) (now : Int) : outT kTT [(47, { op := [(1, 8, .mrg)], sp := [(1, 4), (1, 5), (1, 6), (1, 7)] }),
   (106, { op := [(7, 2, .get)], br := [(5, false), (9, false), (13, false), (25, true)], ob := [(7, 2)] }),
   (9, { op := [(3, 9, .br false)], gd := [(3, 5, false), (3, 6, false), (3, 7, false), (3, 8, false)], br := [(20, false)], ob := [(7, 5)] }),
   (33, { ob := [(1, 3), (1, 4)] }),
   (32, { br := [(10, false), (16, false), (23, false), (31, true)] })] Try.prog 9 [AV.agg [AV.val (Value.int IntKind.i64 tos), AV.val (Value.int IntKind.i64 id), AV.val (Value.int IntKind.i64 flags), AV.val (Value.int IntKind.i64 part), AV.val (Value.int IntKind.i64 ttl), AV.val (Value.int IntKind.i64 proto), AV.val (Value.int IntKind.u8 f0), AV.val (Value.int IntKind.u8 f1), AV.val (Value.int IntKind.u8 f2), AV.val (Value.int IntKind.u8 f3), AV.val (Value.int IntKind.u8 t0), AV.val (Value.int IntKind.u8 t1), AV.val (Value.int IntKind.u8 t2), AV.val (Value.int IntKind.u8 t3), AV.bytes opts, AV.bytes body], AV.val (Value.int IntKind.i64 now)] [] 0 =
   some (AV.val (Value.bool true), [], 326,
   rp 5 (decide ((↑(List.length body) : Int) > (1500 : Int)) = false) (
   (decide ((↑(List.length opts) : Int) > (60 : Int)) = false) ::
   ((!(t0 == (203 : Int) && (t1 == (0 : Int) && (t2 == (113 : Int) && (t3 == (7 : Int) && true))))) = false) ::
   rp 4 ((part == (0 : Int)) = true → (part == (0 : Int)) = true) (
   ((!bif part == (0 : Int) then bits BinOp.and IntKind.i64 flags (1 : Int) == (0 : Int) else false) = false) ::
   ((proto == (17 : Int)) = false) ::
   ((proto == (6 : Int)) = true) ::
   ((proto != (6 : Int)) = false) ::
   rp 4 ((part == (0 : Int)) = true → (part == (0 : Int)) = true) (
   ((!bif part == (0 : Int) then bits BinOp.and IntKind.i64 flags (1 : Int) == (0 : Int) else false) = false) ::
   (decide ((↑(List.length body) : Int) < (20 : Int)) = false) ::
   ((0 : Int) ≤ (12 : Int) ∧ 12 < List.length body) ::
   (decide (IntKind.wrap IntKind.i64 (IntKind.wrap IntKind.i64 (Int.fdiv (↑(UInt8.toNat (List.getD body 12 (0 : UInt8))) : Int) (16 : Int)) * (4 : Int)) < (20 : Int)) = true) :: [])))) := by kernel_rfl

set_option maxRecDepth 100000 in
theorem natShut_t_long (tos : Int) (id : Int) (flags : Int) (part : Int) (ttl : Int) (proto : Int) (f0 : Int) (f1 : Int) (f2 : Int) (f3 : Int) (t0 : Int) (t1 : Int) (t2 : Int) (t3 : Int) (opts : List UInt8) (body : List UInt8) (now : Int) : outT kTT [(47, { op := [(1, 8, .mrg)], sp := [(1, 4), (1, 5), (1, 6), (1, 7)] }),
   (106, { op := [(7, 2, .get)], br := [(5, false), (9, false), (13, false), (25, false), (28, true)], ob := [(7, 2)] }),
   (9, { op := [(3, 9, .br false)], gd := [(3, 5, false), (3, 6, false), (3, 7, false), (3, 8, false)], br := [(20, false)], ob := [(7, 5)] }),
   (33, { ob := [(1, 3), (1, 4)] }),
   (32, { br := [(10, false), (16, false), (23, false), (31, true)] })] Try.prog 9 [AV.agg [AV.val (Value.int IntKind.i64 tos), AV.val (Value.int IntKind.i64 id), AV.val (Value.int IntKind.i64 flags), AV.val (Value.int IntKind.i64 part), AV.val (Value.int IntKind.i64 ttl), AV.val (Value.int IntKind.i64 proto), AV.val (Value.int IntKind.u8 f0), AV.val (Value.int IntKind.u8 f1), AV.val (Value.int IntKind.u8 f2), AV.val (Value.int IntKind.u8 f3), AV.val (Value.int IntKind.u8 t0), AV.val (Value.int IntKind.u8 t1), AV.val (Value.int IntKind.u8 t2), AV.val (Value.int IntKind.u8 t3), AV.bytes opts, AV.bytes body], AV.val (Value.int IntKind.i64 now)] [] 0 =
   some (AV.val (Value.bool true), [], 332,
   rp 5 (decide ((↑(List.length body) : Int) > (1500 : Int)) = false) (
   (decide ((↑(List.length opts) : Int) > (60 : Int)) = false) ::
   ((!(t0 == (203 : Int) && (t1 == (0 : Int) && (t2 == (113 : Int) && (t3 == (7 : Int) && true))))) = false) ::
   rp 4 ((part == (0 : Int)) = true → (part == (0 : Int)) = true) (
   ((!bif part == (0 : Int) then bits BinOp.and IntKind.i64 flags (1 : Int) == (0 : Int) else false) = false) ::
   ((proto == (17 : Int)) = false) ::
   ((proto == (6 : Int)) = true) ::
   ((proto != (6 : Int)) = false) ::
   rp 4 ((part == (0 : Int)) = true → (part == (0 : Int)) = true) (
   ((!bif part == (0 : Int) then bits BinOp.and IntKind.i64 flags (1 : Int) == (0 : Int) else false) = false) ::
   (decide ((↑(List.length body) : Int) < (20 : Int)) = false) ::
   ((0 : Int) ≤ (12 : Int) ∧ 12 < List.length body) ::
   (decide (IntKind.wrap IntKind.i64 (IntKind.wrap IntKind.i64 (Int.fdiv (↑(UInt8.toNat (List.getD body 12 (0 : UInt8))) : Int) (16 : Int)) * (4 : Int)) < (20 : Int)) = false) ::
   (decide (IntKind.wrap IntKind.i64 (IntKind.wrap IntKind.i64 (Int.fdiv (↑(UInt8.toNat (List.getD body 12 (0 : UInt8))) : Int) (16 : Int)) * (4 : Int)) > (↑(List.length body) : Int)) = true) :: [])))) := by kernel_rfl

set_option maxRecDepth 100000 in
theorem natShut_t_sum (tos : Int) (id : Int) (flags : Int) (part : Int) (ttl : Int) (proto : Int) (f0 : Int) (f1 : Int) (f2 : Int) (f3 : Int) (t0 : Int) (t1 : Int) (t2 : Int) (t3 : Int) (opts : List UInt8) (body : List UInt8) (now : Int) : outT kTT [(47, { op := [(1, 8, .mrg)], sp := [(1, 4), (1, 5), (1, 6), (1, 7)] }),
   (106, { op := [(7, 2, .get), (12, 8, .keep)], br := [(5, false), (9, false), (13, false), (25, false), (28, false), (34, true)], ob := [(7, 2), (12, 8)] }),
   (9, { op := [(3, 9, .br false)], gd := [(3, 5, false), (3, 6, false), (3, 7, false), (3, 8, false)], br := [(20, false)], ob := [(7, 5)] }),
   (57, { ob := [(1, 8)] }),
   (54, { ob := [(1, 3), (1, 6), (2, 4), (2, 7)] }),
   (53, { ob := [(5, 2), (7, 1)] }),
   (33, { ob := [(1, 3), (1, 4)] }),
   (32, { br := [(10, false), (16, false), (23, false), (31, true)] })] Try.prog 9 [AV.agg [AV.val (Value.int IntKind.i64 tos), AV.val (Value.int IntKind.i64 id), AV.val (Value.int IntKind.i64 flags), AV.val (Value.int IntKind.i64 part), AV.val (Value.int IntKind.i64 ttl), AV.val (Value.int IntKind.i64 proto), AV.val (Value.int IntKind.u8 f0), AV.val (Value.int IntKind.u8 f1), AV.val (Value.int IntKind.u8 f2), AV.val (Value.int IntKind.u8 f3), AV.val (Value.int IntKind.u8 t0), AV.val (Value.int IntKind.u8 t1), AV.val (Value.int IntKind.u8 t2), AV.val (Value.int IntKind.u8 t3), AV.bytes opts, AV.bytes body], AV.val (Value.int IntKind.i64 now)] [] 0 =
   some (AV.val (Value.bool true), [], 403,
   rp 5 (decide ((↑(List.length body) : Int) > (1500 : Int)) = false) (
   (decide ((↑(List.length opts) : Int) > (60 : Int)) = false) ::
   ((!(t0 == (203 : Int) && (t1 == (0 : Int) && (t2 == (113 : Int) && (t3 == (7 : Int) && true))))) = false) ::
   rp 4 ((part == (0 : Int)) = true → (part == (0 : Int)) = true) (
   ((!bif part == (0 : Int) then bits BinOp.and IntKind.i64 flags (1 : Int) == (0 : Int) else false) = false) ::
   ((proto == (17 : Int)) = false) ::
   ((proto == (6 : Int)) = true) ::
   ((proto != (6 : Int)) = false) ::
   rp 4 ((part == (0 : Int)) = true → (part == (0 : Int)) = true) (
   ((!bif part == (0 : Int) then bits BinOp.and IntKind.i64 flags (1 : Int) == (0 : Int) else false) = false) ::
   (decide ((↑(List.length body) : Int) < (20 : Int)) = false) ::
   ((0 : Int) ≤ (12 : Int) ∧ 12 < List.length body) ::
   (decide (IntKind.wrap IntKind.i64 (IntKind.wrap IntKind.i64 (Int.fdiv (↑(UInt8.toNat (List.getD body 12 (0 : UInt8))) : Int) (16 : Int)) * (4 : Int)) < (20 : Int)) = false) ::
   (decide (IntKind.wrap IntKind.i64 (IntKind.wrap IntKind.i64 (Int.fdiv (↑(UInt8.toNat (List.getD body 12 (0 : UInt8))) : Int) (16 : Int)) * (4 : Int)) > (↑(List.length body) : Int)) = false) ::
   (10 ≤ 16 ∧ 16 ≤ 16 ∧ ∀ (x : AV), x ∈ [AV.val (Value.int IntKind.u8 f0), AV.val (Value.int IntKind.u8 f1), AV.val (Value.int IntKind.u8 f2), AV.val (Value.int IntKind.u8 f3)] → isByteAV x) ::
   (0 = 0 ∧ 0 + 4 ≤ 1000000000) ::
   (14 ≤ 16 ∧ 16 ≤ 16 ∧ ∀ (x : AV), x ∈ [AV.val (Value.int IntKind.u8 t0), AV.val (Value.int IntKind.u8 t1), AV.val (Value.int IntKind.u8 t2), AV.val (Value.int IntKind.u8 t3)] → isByteAV x) ::
   (4 = 4 ∧ 4 + 4 ≤ 1000000000) ::
   (∀ (x : AV), x ∈ [AV.val (Value.int IntKind.u8 (0 : Int)), AV.val (Value.int IntKind.u8 (IntKind.wrap IntKind.u8 proto))] → isByteAV x) ::
   (∀ (x : AV), x ∈ [AV.val (Value.int IntKind.u8 (IntKind.wrap IntKind.u8 (Int.fdiv (↑(List.length body) : Int) (256 : Int)))), AV.val (Value.int IntKind.u8 (IntKind.wrap IntKind.u8 (↑(List.length body) : Int)))] → isByteAV x) ::
   (12 ≤ 12) ::
   (12 ≤ 1000000000) ::
   (True) ::
   (12 = 12 ∧ 12 + List.length body ≤ 1000000000) ::
   (0 + (12 + List.length body) ≤ List.length (UInt8.ofNat (Int.toNat f0) :: UInt8.ofNat (Int.toNat f1) :: UInt8.ofNat (Int.toNat f2) :: UInt8.ofNat (Int.toNat f3) :: UInt8.ofNat (Int.toNat t0) :: UInt8.ofNat (Int.toNat t1) :: UInt8.ofNat (Int.toNat t2) :: UInt8.ofNat (Int.toNat t3) :: (0 : UInt8) :: UInt8.ofNat (Int.toNat (IntKind.wrap IntKind.u8 proto)) :: UInt8.ofNat (Int.toNat (IntKind.wrap IntKind.u8 (Int.fdiv (↑(List.length body) : Int) (256 : Int)))) :: UInt8.ofNat (Int.toNat (IntKind.wrap IntKind.u8 (↑(List.length body) : Int))) :: body)) ::
   (List.length (List.take (12 + List.length body) (UInt8.ofNat (Int.toNat f0) :: UInt8.ofNat (Int.toNat f1) :: UInt8.ofNat (Int.toNat f2) :: UInt8.ofNat (Int.toNat f3) :: UInt8.ofNat (Int.toNat t0) :: UInt8.ofNat (Int.toNat t1) :: UInt8.ofNat (Int.toNat t2) :: UInt8.ofNat (Int.toNat t3) :: (0 : UInt8) :: UInt8.ofNat (Int.toNat (IntKind.wrap IntKind.u8 proto)) :: UInt8.ofNat (Int.toNat (IntKind.wrap IntKind.u8 (Int.fdiv (↑(List.length body) : Int) (256 : Int)))) :: UInt8.ofNat (Int.toNat (IntKind.wrap IntKind.u8 (↑(List.length body) : Int))) :: body)) ≤ 100000000) ::
   (SameO (some { t := 5, sz := 1, exact := false, fz := false, body := Body.bytes [UInt8.ofNat (Int.toNat f0), UInt8.ofNat (Int.toNat f1), UInt8.ofNat (Int.toNat f2), UInt8.ofNat (Int.toNat f3), UInt8.ofNat (Int.toNat t0), UInt8.ofNat (Int.toNat t1), UInt8.ofNat (Int.toNat t2), UInt8.ofNat (Int.toNat t3), (0 : UInt8), UInt8.ofNat (Int.toNat (IntKind.wrap IntKind.u8 proto)), UInt8.ofNat (Int.toNat (IntKind.wrap IntKind.u8 (Int.fdiv (↑(List.length body) : Int) (256 : Int)))), UInt8.ofNat (Int.toNat (IntKind.wrap IntKind.u8 (↑(List.length body) : Int)))] }) { t := 5, sz := 1, exact := false, fz := false, body := Body.bytes [UInt8.ofNat (Int.toNat f0), UInt8.ofNat (Int.toNat f1), UInt8.ofNat (Int.toNat f2), UInt8.ofNat (Int.toNat f3), UInt8.ofNat (Int.toNat t0), UInt8.ofNat (Int.toNat t1), UInt8.ofNat (Int.toNat t2), UInt8.ofNat (Int.toNat t3), (0 : UInt8), UInt8.ofNat (Int.toNat (IntKind.wrap IntKind.u8 proto)), UInt8.ofNat (Int.toNat (IntKind.wrap IntKind.u8 (Int.fdiv (↑(List.length body) : Int) (256 : Int)))), UInt8.ofNat (Int.toNat (IntKind.wrap IntKind.u8 (↑(List.length body) : Int)))] }) ::
   (SameO (some { t := 32, sz := 1, exact := true, fz := false, body := Body.rows [[AV.sl 302 0 12 none], [AV.bytes body]] }) { t := 32, sz := 1, exact := true, fz := false, body := Body.rows [[AV.sl 302 0 12 none], [AV.bytes body]] }) ::
   (((↑(ofL (List.take (12 + List.length body) (UInt8.ofNat (Int.toNat f0) :: UInt8.ofNat (Int.toNat f1) :: UInt8.ofNat (Int.toNat f2) :: UInt8.ofNat (Int.toNat f3) :: UInt8.ofNat (Int.toNat t0) :: UInt8.ofNat (Int.toNat t1) :: UInt8.ofNat (Int.toNat t2) :: UInt8.ofNat (Int.toNat t3) :: (0 : UInt8) :: UInt8.ofNat (Int.toNat (IntKind.wrap IntKind.u8 proto)) :: UInt8.ofNat (Int.toNat (IntKind.wrap IntKind.u8 (Int.fdiv (↑(List.length body) : Int) (256 : Int)))) :: UInt8.ofNat (Int.toNat (IntKind.wrap IntKind.u8 (↑(List.length body) : Int))) :: body))) : Int) != (0 : Int)) = true) :: [])))) := by kernel_rfl

set_option maxRecDepth 100000 in
theorem natShut_t_ok (tos : Int) (id : Int) (flags : Int) (part : Int) (ttl : Int) (proto : Int) (f0 : Int) (f1 : Int) (f2 : Int) (f3 : Int) (t0 : Int) (t1 : Int) (t2 : Int) (t3 : Int) (opts : List UInt8) (body : List UInt8) (now : Int) : outT kTT [(59, { ob := [(4, 7)] }),
   (57, { ob := [(1, 8)] }),
   (55, { op := [(1, 10, .br false)], gd := [(1, 3, false), (1, 4, false), (1, 5, false), (1, 6, false), (1, 7, false), (1, 8, false), (1, 9, false)], br := [(16, false)], ob := [(4, 6), (5, 6), (6, 2)] }),
   (54, { ob := [(1, 3), (1, 6), (2, 4), (2, 7)] }),
   (53, { ob := [(5, 2), (7, 1)] }),
   (51, { ob := [(1, 2)] }),
   (82, { ob := [(5, 1), (6, 1), (7, 1), (8, 1), (9, 1), (10, 1), (11, 1), (12, 1), (13, 3), (14, 2), (14, 3)] }),
   (47, { op := [(1, 8, .mrg)], sp := [(1, 4), (1, 5), (1, 6), (1, 7)] }),
   (106, { op := [(7, 2, .get), (12, 8, .keep)], br := [(5, false), (9, false), (13, false), (25, false), (28, false), (34, false)], ob := [(7, 2), (12, 8)] }),
   (9, { op := [(3, 9, .br false)], gd := [(3, 5, false), (3, 6, false), (3, 7, false), (3, 8, false)], br := [(20, false)], ob := [(6, 4), (7, 5)] }),
   (35, { ob := [(1, 5), (1, 6)] }),
   (33, { ob := [(1, 3), (1, 4)] }),
   (64, { ob := [(1, 5)] }),
   (32, { br := [(10, false), (16, false), (23, false), (31, true)], ob := [(9, 3)] })] Try.prog 9 [AV.agg [AV.val (Value.int IntKind.i64 tos), AV.val (Value.int IntKind.i64 id), AV.val (Value.int IntKind.i64 flags), AV.val (Value.int IntKind.i64 part), AV.val (Value.int IntKind.i64 ttl), AV.val (Value.int IntKind.i64 proto), AV.val (Value.int IntKind.u8 f0), AV.val (Value.int IntKind.u8 f1), AV.val (Value.int IntKind.u8 f2), AV.val (Value.int IntKind.u8 f3), AV.val (Value.int IntKind.u8 t0), AV.val (Value.int IntKind.u8 t1), AV.val (Value.int IntKind.u8 t2), AV.val (Value.int IntKind.u8 t3), AV.bytes opts, AV.bytes body], AV.val (Value.int IntKind.i64 now)] [] 0 =
   some (AV.val (Value.bool true), [], 1409,
   rp 5 (decide ((↑(List.length body) : Int) > (1500 : Int)) = false) (
   (decide ((↑(List.length opts) : Int) > (60 : Int)) = false) ::
   ((!(t0 == (203 : Int) && (t1 == (0 : Int) && (t2 == (113 : Int) && (t3 == (7 : Int) && true))))) = false) ::
   rp 4 ((part == (0 : Int)) = true → (part == (0 : Int)) = true) (
   ((!bif part == (0 : Int) then bits BinOp.and IntKind.i64 flags (1 : Int) == (0 : Int) else false) = false) ::
   ((proto == (17 : Int)) = false) ::
   ((proto == (6 : Int)) = true) ::
   ((proto != (6 : Int)) = false) ::
   rp 4 ((part == (0 : Int)) = true → (part == (0 : Int)) = true) (
   ((!bif part == (0 : Int) then bits BinOp.and IntKind.i64 flags (1 : Int) == (0 : Int) else false) = false) ::
   (decide ((↑(List.length body) : Int) < (20 : Int)) = false) ::
   ((0 : Int) ≤ (12 : Int) ∧ 12 < List.length body) ::
   (decide (IntKind.wrap IntKind.i64 (IntKind.wrap IntKind.i64 (Int.fdiv (↑(UInt8.toNat (List.getD body 12 (0 : UInt8))) : Int) (16 : Int)) * (4 : Int)) < (20 : Int)) = false) ::
   (decide (IntKind.wrap IntKind.i64 (IntKind.wrap IntKind.i64 (Int.fdiv (↑(UInt8.toNat (List.getD body 12 (0 : UInt8))) : Int) (16 : Int)) * (4 : Int)) > (↑(List.length body) : Int)) = false) ::
   (10 ≤ 16 ∧ 16 ≤ 16 ∧ ∀ (x : AV), x ∈ [AV.val (Value.int IntKind.u8 f0), AV.val (Value.int IntKind.u8 f1), AV.val (Value.int IntKind.u8 f2), AV.val (Value.int IntKind.u8 f3)] → isByteAV x) ::
   (0 = 0 ∧ 0 + 4 ≤ 1000000000) ::
   (14 ≤ 16 ∧ 16 ≤ 16 ∧ ∀ (x : AV), x ∈ [AV.val (Value.int IntKind.u8 t0), AV.val (Value.int IntKind.u8 t1), AV.val (Value.int IntKind.u8 t2), AV.val (Value.int IntKind.u8 t3)] → isByteAV x) ::
   (4 = 4 ∧ 4 + 4 ≤ 1000000000) ::
   (∀ (x : AV), x ∈ [AV.val (Value.int IntKind.u8 (0 : Int)), AV.val (Value.int IntKind.u8 (IntKind.wrap IntKind.u8 proto))] → isByteAV x) ::
   (∀ (x : AV), x ∈ [AV.val (Value.int IntKind.u8 (IntKind.wrap IntKind.u8 (Int.fdiv (↑(List.length body) : Int) (256 : Int)))), AV.val (Value.int IntKind.u8 (IntKind.wrap IntKind.u8 (↑(List.length body) : Int)))] → isByteAV x) ::
   (12 ≤ 12) ::
   (12 ≤ 1000000000) ::
   (True) ::
   (12 = 12 ∧ 12 + List.length body ≤ 1000000000) ::
   (0 + (12 + List.length body) ≤ List.length (UInt8.ofNat (Int.toNat f0) :: UInt8.ofNat (Int.toNat f1) :: UInt8.ofNat (Int.toNat f2) :: UInt8.ofNat (Int.toNat f3) :: UInt8.ofNat (Int.toNat t0) :: UInt8.ofNat (Int.toNat t1) :: UInt8.ofNat (Int.toNat t2) :: UInt8.ofNat (Int.toNat t3) :: (0 : UInt8) :: UInt8.ofNat (Int.toNat (IntKind.wrap IntKind.u8 proto)) :: UInt8.ofNat (Int.toNat (IntKind.wrap IntKind.u8 (Int.fdiv (↑(List.length body) : Int) (256 : Int)))) :: UInt8.ofNat (Int.toNat (IntKind.wrap IntKind.u8 (↑(List.length body) : Int))) :: body)) ::
   (List.length (List.take (12 + List.length body) (UInt8.ofNat (Int.toNat f0) :: UInt8.ofNat (Int.toNat f1) :: UInt8.ofNat (Int.toNat f2) :: UInt8.ofNat (Int.toNat f3) :: UInt8.ofNat (Int.toNat t0) :: UInt8.ofNat (Int.toNat t1) :: UInt8.ofNat (Int.toNat t2) :: UInt8.ofNat (Int.toNat t3) :: (0 : UInt8) :: UInt8.ofNat (Int.toNat (IntKind.wrap IntKind.u8 proto)) :: UInt8.ofNat (Int.toNat (IntKind.wrap IntKind.u8 (Int.fdiv (↑(List.length body) : Int) (256 : Int)))) :: UInt8.ofNat (Int.toNat (IntKind.wrap IntKind.u8 (↑(List.length body) : Int))) :: body)) ≤ 100000000) ::
   (SameO (some { t := 5, sz := 1, exact := false, fz := false, body := Body.bytes [UInt8.ofNat (Int.toNat f0), UInt8.ofNat (Int.toNat f1), UInt8.ofNat (Int.toNat f2), UInt8.ofNat (Int.toNat f3), UInt8.ofNat (Int.toNat t0), UInt8.ofNat (Int.toNat t1), UInt8.ofNat (Int.toNat t2), UInt8.ofNat (Int.toNat t3), (0 : UInt8), UInt8.ofNat (Int.toNat (IntKind.wrap IntKind.u8 proto)), UInt8.ofNat (Int.toNat (IntKind.wrap IntKind.u8 (Int.fdiv (↑(List.length body) : Int) (256 : Int)))), UInt8.ofNat (Int.toNat (IntKind.wrap IntKind.u8 (↑(List.length body) : Int)))] }) { t := 5, sz := 1, exact := false, fz := false, body := Body.bytes [UInt8.ofNat (Int.toNat f0), UInt8.ofNat (Int.toNat f1), UInt8.ofNat (Int.toNat f2), UInt8.ofNat (Int.toNat f3), UInt8.ofNat (Int.toNat t0), UInt8.ofNat (Int.toNat t1), UInt8.ofNat (Int.toNat t2), UInt8.ofNat (Int.toNat t3), (0 : UInt8), UInt8.ofNat (Int.toNat (IntKind.wrap IntKind.u8 proto)), UInt8.ofNat (Int.toNat (IntKind.wrap IntKind.u8 (Int.fdiv (↑(List.length body) : Int) (256 : Int)))), UInt8.ofNat (Int.toNat (IntKind.wrap IntKind.u8 (↑(List.length body) : Int)))] }) ::
   (SameO (some { t := 32, sz := 1, exact := true, fz := false, body := Body.rows [[AV.sl 302 0 12 none], [AV.bytes body]] }) { t := 32, sz := 1, exact := true, fz := false, body := Body.rows [[AV.sl 302 0 12 none], [AV.bytes body]] }) ::
   (((↑(ofL (List.take (12 + List.length body) (UInt8.ofNat (Int.toNat f0) :: UInt8.ofNat (Int.toNat f1) :: UInt8.ofNat (Int.toNat f2) :: UInt8.ofNat (Int.toNat f3) :: UInt8.ofNat (Int.toNat t0) :: UInt8.ofNat (Int.toNat t1) :: UInt8.ofNat (Int.toNat t2) :: UInt8.ofNat (Int.toNat t3) :: (0 : UInt8) :: UInt8.ofNat (Int.toNat (IntKind.wrap IntKind.u8 proto)) :: UInt8.ofNat (Int.toNat (IntKind.wrap IntKind.u8 (Int.fdiv (↑(List.length body) : Int) (256 : Int)))) :: UInt8.ofNat (Int.toNat (IntKind.wrap IntKind.u8 (↑(List.length body) : Int))) :: body))) : Int) != (0 : Int)) = false) ::
   (True) ::
   (0 = 0 ∧ 0 + List.length body ≤ 1000000000) ::
   (2 ≤ 0 + List.length body) ::
   (0 + (0 + List.length body) ≤ List.length body) ::
   (2 ≤ 0 + List.length body - 2) ::
   (2 + (0 + List.length body - 2) ≤ List.length body) ::
   (4 ≤ 0 + List.length body - 2 - 2) ::
   (4 + (0 + List.length body - 2 - 2) ≤ List.length body) ::
   (4 ≤ 0 + List.length body - 2 - 2 - 4) ::
   (8 + (0 + List.length body - 2 - 2 - 4) ≤ List.length body) ::
   (2 ≤ 0 + List.length body - 2 - 2 - 4 - 4) ::
   (12 + (0 + List.length body - 2 - 2 - 4 - 4) ≤ List.length body) ::
   (2 ≤ 0 + List.length body - 2 - 2 - 4 - 4 - 2) ::
   (14 + (0 + List.length body - 2 - 2 - 4 - 4 - 2) ≤ List.length body) ::
   (2 ≤ 0 + List.length body - 2 - 2 - 4 - 4 - 2 - 2) ::
   (16 + (0 + List.length body - 2 - 2 - 4 - 4 - 2 - 2) ≤ List.length body) ::
   (2 ≤ 0 + List.length body - 2 - 2 - 4 - 4 - 2 - 2 - 2) ::
   (18 + (0 + List.length body - 2 - 2 - 4 - 4 - 2 - 2 - 2) ≤ List.length body) ::
   rp 8 (decide (IntKind.wrap IntKind.i64 (IntKind.wrap IntKind.i64 (IntKind.wrap IntKind.i64 (Int.fdiv (↑(UInt8.toNat (List.getD body 12 (0 : UInt8))) : Int) (16 : Int)) * (4 : Int)) - (20 : Int)) < (0 : Int)) = false) (
   (decide (IntKind.wrap IntKind.i64 (IntKind.wrap IntKind.i64 (IntKind.wrap IntKind.i64 (Int.fdiv (↑(UInt8.toNat (List.getD body 12 (0 : UInt8))) : Int) (16 : Int)) * (4 : Int)) - (20 : Int)) > (↑(0 + List.length body - 2 - 2 - 4 - 4 - 2 - 2 - 2 - 2) : Int)) = false) ::
   ((0 : Int) ≤ (0 : Int)) ::
   rp 2 ((0 : Int) ≤ IntKind.wrap IntKind.i64 (IntKind.wrap IntKind.i64 (IntKind.wrap IntKind.i64 (Int.fdiv (↑(UInt8.toNat (List.getD body 12 (0 : UInt8))) : Int) (16 : Int)) * (4 : Int)) - (20 : Int))) (
   (0 ≤ Int.toNat (IntKind.wrap IntKind.i64 (IntKind.wrap IntKind.i64 (IntKind.wrap IntKind.i64 (Int.fdiv (↑(UInt8.toNat (List.getD body 12 (0 : UInt8))) : Int) (16 : Int)) * (4 : Int)) - (20 : Int))) ∧ Int.toNat (IntKind.wrap IntKind.i64 (IntKind.wrap IntKind.i64 (IntKind.wrap IntKind.i64 (Int.fdiv (↑(UInt8.toNat (List.getD body 12 (0 : UInt8))) : Int) (16 : Int)) * (4 : Int)) - (20 : Int))) ≤ Int.toNat (IntKind.wrap IntKind.i64 (IntKind.wrap IntKind.i64 (IntKind.wrap IntKind.i64 (Int.fdiv (↑(UInt8.toNat (List.getD body 12 (0 : UInt8))) : Int) (16 : Int)) * (4 : Int)) - (20 : Int))) ∧ 20 + Int.toNat (IntKind.wrap IntKind.i64 (IntKind.wrap IntKind.i64 (IntKind.wrap IntKind.i64 (Int.fdiv (↑(UInt8.toNat (List.getD body 12 (0 : UInt8))) : Int) (16 : Int)) * (4 : Int)) - (20 : Int))) ≤ List.length body) ::
   ((0 : Int) ≤ IntKind.wrap IntKind.i64 (IntKind.wrap IntKind.i64 (IntKind.wrap IntKind.i64 (Int.fdiv (↑(UInt8.toNat (List.getD body 12 (0 : UInt8))) : Int) (16 : Int)) * (4 : Int)) - (20 : Int))) ::
   ((0 : Int) ≤ (↑(0 + List.length body - 2 - 2 - 4 - 4 - 2 - 2 - 2 - 2) : Int)) ::
   (Int.toNat (IntKind.wrap IntKind.i64 (IntKind.wrap IntKind.i64 (IntKind.wrap IntKind.i64 (Int.fdiv (↑(UInt8.toNat (List.getD body 12 (0 : UInt8))) : Int) (16 : Int)) * (4 : Int)) - (20 : Int))) ≤ 0 + List.length body - 2 - 2 - 4 - 4 - 2 - 2 - 2 - 2 ∧ 20 + (0 + List.length body - 2 - 2 - 4 - 4 - 2 - 2 - 2 - 2) ≤ List.length body) ::
   (20 + Int.toNat (IntKind.wrap IntKind.i64 (IntKind.wrap IntKind.i64 (IntKind.wrap IntKind.i64 (Int.fdiv (↑(UInt8.toNat (List.getD body 12 (0 : UInt8))) : Int) (16 : Int)) * (4 : Int)) - (20 : Int))) ≤ List.length body) ::
   (0 = 0 ∧ 0 + Int.toNat (IntKind.wrap IntKind.i64 (IntKind.wrap IntKind.i64 (IntKind.wrap IntKind.i64 (Int.fdiv (↑(UInt8.toNat (List.getD body 12 (0 : UInt8))) : Int) (16 : Int)) * (4 : Int)) - (20 : Int))) ≤ 1000000000) ::
   rp 7 (false = false) (
   (decide ((↑(0 + List.length body - 2 - 2 - 4 - 4 - 2 - 2 - 2 - 2 - Int.toNat (IntKind.wrap IntKind.i64 (IntKind.wrap IntKind.i64 (IntKind.wrap IntKind.i64 (Int.fdiv (↑(UInt8.toNat (List.getD body 12 (0 : UInt8))) : Int) (16 : Int)) * (4 : Int)) - (20 : Int)))) : Int) < (0 : Int)) = false) ::
   (decide ((↑(0 + List.length body - 2 - 2 - 4 - 4 - 2 - 2 - 2 - 2 - Int.toNat (IntKind.wrap IntKind.i64 (IntKind.wrap IntKind.i64 (IntKind.wrap IntKind.i64 (Int.fdiv (↑(UInt8.toNat (List.getD body 12 (0 : UInt8))) : Int) (16 : Int)) * (4 : Int)) - (20 : Int)))) : Int) > (↑(0 + List.length body - 2 - 2 - 4 - 4 - 2 - 2 - 2 - 2 - Int.toNat (IntKind.wrap IntKind.i64 (IntKind.wrap IntKind.i64 (IntKind.wrap IntKind.i64 (Int.fdiv (↑(UInt8.toNat (List.getD body 12 (0 : UInt8))) : Int) (16 : Int)) * (4 : Int)) - (20 : Int)))) : Int)) = false) ::
   ((0 : Int) ≤ (0 : Int)) ::
   rp 2 ((0 : Int) ≤ (↑(0 + List.length body - 2 - 2 - 4 - 4 - 2 - 2 - 2 - 2 - Int.toNat (IntKind.wrap IntKind.i64 (IntKind.wrap IntKind.i64 (IntKind.wrap IntKind.i64 (Int.fdiv (↑(UInt8.toNat (List.getD body 12 (0 : UInt8))) : Int) (16 : Int)) * (4 : Int)) - (20 : Int)))) : Int)) (
   (0 ≤ 0 + List.length body - 2 - 2 - 4 - 4 - 2 - 2 - 2 - 2 - Int.toNat (IntKind.wrap IntKind.i64 (IntKind.wrap IntKind.i64 (IntKind.wrap IntKind.i64 (Int.fdiv (↑(UInt8.toNat (List.getD body 12 (0 : UInt8))) : Int) (16 : Int)) * (4 : Int)) - (20 : Int))) ∧ 0 + List.length body - 2 - 2 - 4 - 4 - 2 - 2 - 2 - 2 - Int.toNat (IntKind.wrap IntKind.i64 (IntKind.wrap IntKind.i64 (IntKind.wrap IntKind.i64 (Int.fdiv (↑(UInt8.toNat (List.getD body 12 (0 : UInt8))) : Int) (16 : Int)) * (4 : Int)) - (20 : Int))) ≤ 0 + List.length body - 2 - 2 - 4 - 4 - 2 - 2 - 2 - 2 - Int.toNat (IntKind.wrap IntKind.i64 (IntKind.wrap IntKind.i64 (IntKind.wrap IntKind.i64 (Int.fdiv (↑(UInt8.toNat (List.getD body 12 (0 : UInt8))) : Int) (16 : Int)) * (4 : Int)) - (20 : Int))) ∧ 20 + Int.toNat (IntKind.wrap IntKind.i64 (IntKind.wrap IntKind.i64 (IntKind.wrap IntKind.i64 (Int.fdiv (↑(UInt8.toNat (List.getD body 12 (0 : UInt8))) : Int) (16 : Int)) * (4 : Int)) - (20 : Int))) + (0 + List.length body - 2 - 2 - 4 - 4 - 2 - 2 - 2 - 2 - Int.toNat (IntKind.wrap IntKind.i64 (IntKind.wrap IntKind.i64 (IntKind.wrap IntKind.i64 (Int.fdiv (↑(UInt8.toNat (List.getD body 12 (0 : UInt8))) : Int) (16 : Int)) * (4 : Int)) - (20 : Int)))) ≤ List.length body) ::
   rp 2 ((0 : Int) ≤ (↑(0 + List.length body - 2 - 2 - 4 - 4 - 2 - 2 - 2 - 2 - Int.toNat (IntKind.wrap IntKind.i64 (IntKind.wrap IntKind.i64 (IntKind.wrap IntKind.i64 (Int.fdiv (↑(UInt8.toNat (List.getD body 12 (0 : UInt8))) : Int) (16 : Int)) * (4 : Int)) - (20 : Int)))) : Int)) (
   (0 + List.length body - 2 - 2 - 4 - 4 - 2 - 2 - 2 - 2 - Int.toNat (IntKind.wrap IntKind.i64 (IntKind.wrap IntKind.i64 (IntKind.wrap IntKind.i64 (Int.fdiv (↑(UInt8.toNat (List.getD body 12 (0 : UInt8))) : Int) (16 : Int)) * (4 : Int)) - (20 : Int))) ≤ 0 + List.length body - 2 - 2 - 4 - 4 - 2 - 2 - 2 - 2 - Int.toNat (IntKind.wrap IntKind.i64 (IntKind.wrap IntKind.i64 (IntKind.wrap IntKind.i64 (Int.fdiv (↑(UInt8.toNat (List.getD body 12 (0 : UInt8))) : Int) (16 : Int)) * (4 : Int)) - (20 : Int))) ∧ 20 + Int.toNat (IntKind.wrap IntKind.i64 (IntKind.wrap IntKind.i64 (IntKind.wrap IntKind.i64 (Int.fdiv (↑(UInt8.toNat (List.getD body 12 (0 : UInt8))) : Int) (16 : Int)) * (4 : Int)) - (20 : Int))) + (0 + List.length body - 2 - 2 - 4 - 4 - 2 - 2 - 2 - 2 - Int.toNat (IntKind.wrap IntKind.i64 (IntKind.wrap IntKind.i64 (IntKind.wrap IntKind.i64 (Int.fdiv (↑(UInt8.toNat (List.getD body 12 (0 : UInt8))) : Int) (16 : Int)) * (4 : Int)) - (20 : Int)))) ≤ List.length body) ::
   (20 + Int.toNat (IntKind.wrap IntKind.i64 (IntKind.wrap IntKind.i64 (IntKind.wrap IntKind.i64 (Int.fdiv (↑(UInt8.toNat (List.getD body 12 (0 : UInt8))) : Int) (16 : Int)) * (4 : Int)) - (20 : Int))) + (0 + List.length body - 2 - 2 - 4 - 4 - 2 - 2 - 2 - 2 - Int.toNat (IntKind.wrap IntKind.i64 (IntKind.wrap IntKind.i64 (IntKind.wrap IntKind.i64 (Int.fdiv (↑(UInt8.toNat (List.getD body 12 (0 : UInt8))) : Int) (16 : Int)) * (4 : Int)) - (20 : Int)))) ≤ List.length body) ::
   (0 = 0 ∧ 0 + (0 + List.length body - 2 - 2 - 4 - 4 - 2 - 2 - 2 - 2 - Int.toNat (IntKind.wrap IntKind.i64 (IntKind.wrap IntKind.i64 (IntKind.wrap IntKind.i64 (Int.fdiv (↑(UInt8.toNat (List.getD body 12 (0 : UInt8))) : Int) (16 : Int)) * (4 : Int)) - (20 : Int)))) ≤ 1000000000) :: []))))))))) := by kernel_rfl

set_option maxRecDepth 100000 in
theorem natShut_i_short (tos : Int) (id : Int) (flags : Int) (part : Int) (ttl : Int) (proto : Int) (f0 : Int) (f1 : Int) (f2 : Int) (f3 : Int) (t0 : Int) (t1 : Int) (t2 : Int) (t3 : Int) (opts : List UInt8) (body : List UInt8) (now : Int) : outT kTT [(47, { op := [(1, 8, .mrg)], sp := [(1, 4), (1, 5), (1, 6), (1, 7)] }),
   (9, { op := [(3, 9, .br false)], gd := [(3, 5, false), (3, 6, false), (3, 7, false), (3, 8, false)], br := [(20, false)], ob := [(7, 5)] }),
   (40, { br := [(6, false), (11, false), (16, true)] }),
   (33, { ob := [(1, 3), (1, 4)] }),
   (32, { br := [(10, false), (16, false), (23, false), (31, false), (39, true)] })] Try.prog 9 [AV.agg [AV.val (Value.int IntKind.i64 tos), AV.val (Value.int IntKind.i64 id), AV.val (Value.int IntKind.i64 flags), AV.val (Value.int IntKind.i64 part), AV.val (Value.int IntKind.i64 ttl), AV.val (Value.int IntKind.i64 proto), AV.val (Value.int IntKind.u8 f0), AV.val (Value.int IntKind.u8 f1), AV.val (Value.int IntKind.u8 f2), AV.val (Value.int IntKind.u8 f3), AV.val (Value.int IntKind.u8 t0), AV.val (Value.int IntKind.u8 t1), AV.val (Value.int IntKind.u8 t2), AV.val (Value.int IntKind.u8 t3), AV.bytes opts, AV.bytes body], AV.val (Value.int IntKind.i64 now)] [] 0 =
   some (AV.val (Value.bool true), [], 304,
   rp 5 (decide ((↑(List.length body) : Int) > (1500 : Int)) = false) (
   (decide ((↑(List.length opts) : Int) > (60 : Int)) = false) ::
   ((!(t0 == (203 : Int) && (t1 == (0 : Int) && (t2 == (113 : Int) && (t3 == (7 : Int) && true))))) = false) ::
   rp 4 ((part == (0 : Int)) = true → (part == (0 : Int)) = true) (
   ((!bif part == (0 : Int) then bits BinOp.and IntKind.i64 flags (1 : Int) == (0 : Int) else false) = false) ::
   ((proto == (17 : Int)) = false) ::
   ((proto == (6 : Int)) = false) ::
   ((proto == (1 : Int)) = true) ::
   ((proto != (1 : Int)) = false) ::
   rp 4 ((part == (0 : Int)) = true → (part == (0 : Int)) = true) (
   ((!bif part == (0 : Int) then bits BinOp.and IntKind.i64 flags (1 : Int) == (0 : Int) else false) = false) ::
   (decide ((↑(List.length body) : Int) < (8 : Int)) = true) :: [])))) := by kernel_rfl

set_option maxRecDepth 100000 in
theorem natShut_i_sum (tos : Int) (id : Int) (flags : Int) (part : Int) (ttl : Int) (proto : Int) (f0 : Int) (f1 : Int) (f2 : Int) (f3 : Int) (t0 : Int) (t1 : Int) (t2 : Int) (t3 : Int) (opts : List UInt8) (body : List UInt8) (now : Int) : outT kTT [(47, { op := [(1, 8, .mrg)], sp := [(1, 4), (1, 5), (1, 6), (1, 7)] }),
   (9, { op := [(3, 9, .br false)], gd := [(3, 5, false), (3, 6, false), (3, 7, false), (3, 8, false)], br := [(20, false)], ob := [(7, 5)] }),
   (40, { br := [(6, false), (11, false), (16, false), (22, true)] }),
   (33, { ob := [(1, 3), (1, 4)] }),
   (32, { br := [(10, false), (16, false), (23, false), (31, false), (39, true)] })] Try.prog 9 [AV.agg [AV.val (Value.int IntKind.i64 tos), AV.val (Value.int IntKind.i64 id), AV.val (Value.int IntKind.i64 flags), AV.val (Value.int IntKind.i64 part), AV.val (Value.int IntKind.i64 ttl), AV.val (Value.int IntKind.i64 proto), AV.val (Value.int IntKind.u8 f0), AV.val (Value.int IntKind.u8 f1), AV.val (Value.int IntKind.u8 f2), AV.val (Value.int IntKind.u8 f3), AV.val (Value.int IntKind.u8 t0), AV.val (Value.int IntKind.u8 t1), AV.val (Value.int IntKind.u8 t2), AV.val (Value.int IntKind.u8 t3), AV.bytes opts, AV.bytes body], AV.val (Value.int IntKind.i64 now)] [] 0 =
   some (AV.val (Value.bool true), [], 309,
   rp 5 (decide ((↑(List.length body) : Int) > (1500 : Int)) = false) (
   (decide ((↑(List.length opts) : Int) > (60 : Int)) = false) ::
   ((!(t0 == (203 : Int) && (t1 == (0 : Int) && (t2 == (113 : Int) && (t3 == (7 : Int) && true))))) = false) ::
   rp 4 ((part == (0 : Int)) = true → (part == (0 : Int)) = true) (
   ((!bif part == (0 : Int) then bits BinOp.and IntKind.i64 flags (1 : Int) == (0 : Int) else false) = false) ::
   ((proto == (17 : Int)) = false) ::
   ((proto == (6 : Int)) = false) ::
   ((proto == (1 : Int)) = true) ::
   ((proto != (1 : Int)) = false) ::
   rp 4 ((part == (0 : Int)) = true → (part == (0 : Int)) = true) (
   ((!bif part == (0 : Int) then bits BinOp.and IntKind.i64 flags (1 : Int) == (0 : Int) else false) = false) ::
   (decide ((↑(List.length body) : Int) < (8 : Int)) = false) ::
   (True) ::
   (List.length body ≤ 100000000) ::
   ((!ofL body == 0) = true) :: [])))) := by kernel_rfl

set_option maxRecDepth 100000 in
theorem natShut_i_query (tos : Int) (id : Int) (flags : Int) (part : Int) (ttl : Int) (proto : Int) (f0 : Int) (f1 : Int) (f2 : Int) (f3 : Int) (t0 : Int) (t1 : Int) (t2 : Int) (t3 : Int) (opts : List UInt8) (body : List UInt8) (now : Int) : outT kTT [(47, { op := [(1, 8, .mrg)], sp := [(1, 4), (1, 5), (1, 6), (1, 7)] }),
   (60, { ob := [(4, 1), (6, 6)] }),
   (9, { op := [(3, 9, .br false)], gd := [(3, 5, false), (3, 6, false), (3, 7, false), (3, 8, false)], br := [(20, false)], ob := [(6, 4), (7, 5)] }),
   (40, { br := [(6, false), (11, false), (16, false), (22, false)], ob := [(10, 1), (11, 1), (12, 1), (13, 1), (14, 2), (14, 3)] }),
   (55, { br := [(16, false)], ob := [(4, 6), (5, 6), (6, 2)] }),
   (84, { op := [(1, 7, .mrg), (1, 12, .mrg)], br := [(16, false)], sp := [(1, 4), (1, 5), (1, 6), (1, 9), (1, 10), (1, 11)] }),
   (51, { ob := [(1, 2)] }),
   (35, { ob := [(1, 5), (1, 6)] }),
   (33, { ob := [(1, 3), (1, 4)] }),
   (32, { br := [(10, false), (16, false), (23, false), (31, false), (39, true)], ob := [(11, 4)] }),
   (64, { ob := [(1, 5)] })] Try.prog 9 [AV.agg [AV.val (Value.int IntKind.i64 tos), AV.val (Value.int IntKind.i64 id), AV.val (Value.int IntKind.i64 flags), AV.val (Value.int IntKind.i64 part), AV.val (Value.int IntKind.i64 ttl), AV.val (Value.int IntKind.i64 proto), AV.val (Value.int IntKind.u8 f0), AV.val (Value.int IntKind.u8 f1), AV.val (Value.int IntKind.u8 f2), AV.val (Value.int IntKind.u8 f3), AV.val (Value.int IntKind.u8 t0), AV.val (Value.int IntKind.u8 t1), AV.val (Value.int IntKind.u8 t2), AV.val (Value.int IntKind.u8 t3), AV.bytes opts, AV.bytes body], AV.val (Value.int IntKind.i64 now)] [] 0 =
   some (AV.val (Value.bool true), [], 887,
   rp 5 (decide ((↑(List.length body) : Int) > (1500 : Int)) = false) (
   (decide ((↑(List.length opts) : Int) > (60 : Int)) = false) ::
   ((!(t0 == (203 : Int) && (t1 == (0 : Int) && (t2 == (113 : Int) && (t3 == (7 : Int) && true))))) = false) ::
   rp 4 ((part == (0 : Int)) = true → (part == (0 : Int)) = true) (
   ((!bif part == (0 : Int) then bits BinOp.and IntKind.i64 flags (1 : Int) == (0 : Int) else false) = false) ::
   ((proto == (17 : Int)) = false) ::
   ((proto == (6 : Int)) = false) ::
   ((proto == (1 : Int)) = true) ::
   ((proto != (1 : Int)) = false) ::
   rp 4 ((part == (0 : Int)) = true → (part == (0 : Int)) = true) (
   ((!bif part == (0 : Int) then bits BinOp.and IntKind.i64 flags (1 : Int) == (0 : Int) else false) = false) ::
   (decide ((↑(List.length body) : Int) < (8 : Int)) = false) ::
   (True) ::
   (List.length body ≤ 100000000) ::
   ((!ofL body == 0) = false) ::
   (True) ::
   (0 = 0 ∧ 0 + List.length body ≤ 1000000000) ::
   (1 ≤ 0 + List.length body) ::
   (0 + (0 + List.length body) ≤ List.length body) ::
   (1 ≤ 0 + List.length body - 1) ::
   (1 + (0 + List.length body - 1) ≤ List.length body) ::
   (2 ≤ 0 + List.length body - 1 - 1) ::
   (2 + (0 + List.length body - 1 - 1) ≤ List.length body) ::
   (4 ≤ 0 + List.length body - 1 - 1 - 2) ::
   (4 + (0 + List.length body - 1 - 1 - 2) ≤ List.length body) ::
   (decide ((↑(0 + List.length body - 1 - 1 - 2 - 4) : Int) > (↑(0 + List.length body - 1 - 1 - 2 - 4) : Int)) = false) ::
   ((0 : Int) ≤ (0 : Int)) ::
   rp 2 ((0 : Int) ≤ (↑(0 + List.length body - 1 - 1 - 2 - 4) : Int)) (
   (0 ≤ 0 + List.length body - 1 - 1 - 2 - 4 ∧ 0 + List.length body - 1 - 1 - 2 - 4 ≤ 0 + List.length body - 1 - 1 - 2 - 4 ∧ 8 + (0 + List.length body - 1 - 1 - 2 - 4) ≤ List.length body) ::
   rp 2 ((0 : Int) ≤ (↑(0 + List.length body - 1 - 1 - 2 - 4) : Int)) (
   (0 + List.length body - 1 - 1 - 2 - 4 ≤ 0 + List.length body - 1 - 1 - 2 - 4 ∧ 8 + (0 + List.length body - 1 - 1 - 2 - 4) ≤ List.length body) ::
   (8 + (0 + List.length body - 1 - 1 - 2 - 4) ≤ List.length body) ::
   (0 = 0 ∧ 0 + (0 + List.length body - 1 - 1 - 2 - 4) ≤ 1000000000) ::
   rp 3 (((↑(at8 body 0) : Int) != (8 : Int)) = true → ((↑(at8 body 0) : Int) != (8 : Int)) = true) (
   rp 2 ((!bif (↑(at8 body 0) : Int) != (8 : Int) then (↑(at8 body 0) : Int) != (0 : Int) else false) = true → (!bif (↑(at8 body 0) : Int) != (8 : Int) then (↑(at8 body 0) : Int) != (0 : Int) else false) = true) (
   ((bif (↑(at8 body 0) : Int) != (8 : Int) then (↑(at8 body 0) : Int) != (0 : Int) else false) = false → (!bif (↑(at8 body 0) : Int) != (8 : Int) then (↑(at8 body 0) : Int) != (0 : Int) else false) = true) ::
   ((bif bif (↑(at8 body 0) : Int) != (8 : Int) then (↑(at8 body 0) : Int) != (0 : Int) else false then true else (↑(at8 body 1) : Int) != (0 : Int)) = false) :: [])))))))) := by kernel_rfl

set_option maxRecDepth 100000 in
theorem natShut_i_deny (tos : Int) (id : Int) (flags : Int) (part : Int) (ttl : Int) (proto : Int) (f0 : Int) (f1 : Int) (f2 : Int) (f3 : Int) (t0 : Int) (t1 : Int) (t2 : Int) (t3 : Int) (opts : List UInt8) (body : List UInt8) (now : Int) : outT kTT [(47, { op := [(1, 8, .mrg)], sp := [(1, 4), (1, 5), (1, 6), (1, 7)] }),
   (60, { br := [(70, true)], ob := [(4, 1), (12, 1)] }),
   (9, { op := [(3, 9, .br false)], gd := [(3, 5, false), (3, 6, false), (3, 7, false), (3, 8, false)], br := [(20, false)], ob := [(7, 5)] }),
   (40, { br := [(6, false), (11, false), (16, false), (22, false)], ob := [(10, 1), (11, 1), (12, 1), (13, 1), (14, 2), (14, 3)] }),
   (55, { br := [(16, false)], ob := [(4, 6), (5, 6), (6, 2)] }),
   (86, { op := [(1, 7, .mrg), (1, 12, .mrg)], sp := [(1, 4), (1, 5), (1, 6), (1, 9), (1, 10), (1, 11)] }),
   (84, { op := [(1, 7, .mrg), (1, 12, .mrg)], br := [(16, true)], sp := [(1, 4), (1, 5), (1, 6), (1, 9), (1, 10), (1, 11)] }),
   (51, { ob := [(1, 2)] }),
   (33, { ob := [(1, 3), (1, 4)] }),
   (32, { br := [(10, false), (16, false), (23, false), (31, false), (39, true)] })] Try.prog 9 [AV.agg [AV.val (Value.int IntKind.i64 tos), AV.val (Value.int IntKind.i64 id), AV.val (Value.int IntKind.i64 flags), AV.val (Value.int IntKind.i64 part), AV.val (Value.int IntKind.i64 ttl), AV.val (Value.int IntKind.i64 proto), AV.val (Value.int IntKind.u8 f0), AV.val (Value.int IntKind.u8 f1), AV.val (Value.int IntKind.u8 f2), AV.val (Value.int IntKind.u8 f3), AV.val (Value.int IntKind.u8 t0), AV.val (Value.int IntKind.u8 t1), AV.val (Value.int IntKind.u8 t2), AV.val (Value.int IntKind.u8 t3), AV.bytes opts, AV.bytes body], AV.val (Value.int IntKind.i64 now)] [] 0 =
   some (AV.val (Value.bool true), [], 826,
   rp 5 (decide ((↑(List.length body) : Int) > (1500 : Int)) = false) (
   (decide ((↑(List.length opts) : Int) > (60 : Int)) = false) ::
   ((!(t0 == (203 : Int) && (t1 == (0 : Int) && (t2 == (113 : Int) && (t3 == (7 : Int) && true))))) = false) ::
   rp 4 ((part == (0 : Int)) = true → (part == (0 : Int)) = true) (
   ((!bif part == (0 : Int) then bits BinOp.and IntKind.i64 flags (1 : Int) == (0 : Int) else false) = false) ::
   ((proto == (17 : Int)) = false) ::
   ((proto == (6 : Int)) = false) ::
   ((proto == (1 : Int)) = true) ::
   ((proto != (1 : Int)) = false) ::
   rp 4 ((part == (0 : Int)) = true → (part == (0 : Int)) = true) (
   ((!bif part == (0 : Int) then bits BinOp.and IntKind.i64 flags (1 : Int) == (0 : Int) else false) = false) ::
   (decide ((↑(List.length body) : Int) < (8 : Int)) = false) ::
   (True) ::
   (List.length body ≤ 100000000) ::
   ((!ofL body == 0) = false) ::
   (True) ::
   (0 = 0 ∧ 0 + List.length body ≤ 1000000000) ::
   (1 ≤ 0 + List.length body) ::
   (0 + (0 + List.length body) ≤ List.length body) ::
   (1 ≤ 0 + List.length body - 1) ::
   (1 + (0 + List.length body - 1) ≤ List.length body) ::
   (2 ≤ 0 + List.length body - 1 - 1) ::
   (2 + (0 + List.length body - 1 - 1) ≤ List.length body) ::
   (4 ≤ 0 + List.length body - 1 - 1 - 2) ::
   (4 + (0 + List.length body - 1 - 1 - 2) ≤ List.length body) ::
   (decide ((↑(0 + List.length body - 1 - 1 - 2 - 4) : Int) > (↑(0 + List.length body - 1 - 1 - 2 - 4) : Int)) = false) ::
   ((0 : Int) ≤ (0 : Int)) ::
   rp 2 ((0 : Int) ≤ (↑(0 + List.length body - 1 - 1 - 2 - 4) : Int)) (
   (0 ≤ 0 + List.length body - 1 - 1 - 2 - 4 ∧ 0 + List.length body - 1 - 1 - 2 - 4 ≤ 0 + List.length body - 1 - 1 - 2 - 4 ∧ 8 + (0 + List.length body - 1 - 1 - 2 - 4) ≤ List.length body) ::
   rp 2 ((0 : Int) ≤ (↑(0 + List.length body - 1 - 1 - 2 - 4) : Int)) (
   (0 + List.length body - 1 - 1 - 2 - 4 ≤ 0 + List.length body - 1 - 1 - 2 - 4 ∧ 8 + (0 + List.length body - 1 - 1 - 2 - 4) ≤ List.length body) ::
   (8 + (0 + List.length body - 1 - 1 - 2 - 4) ≤ List.length body) ::
   (0 = 0 ∧ 0 + (0 + List.length body - 1 - 1 - 2 - 4) ≤ 1000000000) ::
   rp 3 (((↑(at8 body 0) : Int) != (8 : Int)) = true → ((↑(at8 body 0) : Int) != (8 : Int)) = true) (
   rp 2 ((!bif (↑(at8 body 0) : Int) != (8 : Int) then (↑(at8 body 0) : Int) != (0 : Int) else false) = true → (!bif (↑(at8 body 0) : Int) != (8 : Int) then (↑(at8 body 0) : Int) != (0 : Int) else false) = true) (
   ((bif (↑(at8 body 0) : Int) != (8 : Int) then (↑(at8 body 0) : Int) != (0 : Int) else false) = false → (!bif (↑(at8 body 0) : Int) != (8 : Int) then (↑(at8 body 0) : Int) != (0 : Int) else false) = true) ::
   ((bif bif (↑(at8 body 0) : Int) != (8 : Int) then (↑(at8 body 0) : Int) != (0 : Int) else false then true else (↑(at8 body 1) : Int) != (0 : Int)) = true) ::
   rp 2 ((!(↑(at8 body 0) : Int) == (3 : Int)) = true → (!(↑(at8 body 0) : Int) == (3 : Int)) = true) (
   (((↑(at8 body 0) : Int) == (3 : Int)) = false → (!(↑(at8 body 0) : Int) == (3 : Int)) = true) ::
   rp 2 ((!bif (↑(at8 body 0) : Int) == (3 : Int) then true else (↑(at8 body 0) : Int) == (11 : Int)) = true → (!bif (↑(at8 body 0) : Int) == (3 : Int) then true else (↑(at8 body 0) : Int) == (11 : Int)) = true) (
   ((bif (↑(at8 body 0) : Int) == (3 : Int) then true else (↑(at8 body 0) : Int) == (11 : Int)) = false → (!bif (↑(at8 body 0) : Int) == (3 : Int) then true else (↑(at8 body 0) : Int) == (11 : Int)) = true) ::
   ((!bif bif (↑(at8 body 0) : Int) == (3 : Int) then true else (↑(at8 body 0) : Int) == (11 : Int) then true else (↑(at8 body 0) : Int) == (12 : Int)) = true) :: [])))))))))) := by kernel_rfl

set_option maxRecDepth 100000 in
theorem natShut_i_f_short (tos : Int) (id : Int) (flags : Int) (part : Int) (ttl : Int) (proto : Int) (f0 : Int) (f1 : Int) (f2 : Int) (f3 : Int) (t0 : Int) (t1 : Int) (t2 : Int) (t3 : Int) (opts : List UInt8) (body : List UInt8) (now : Int) : outT kTT [(47, { op := [(1, 8, .mrg)], sp := [(1, 4), (1, 5), (1, 6), (1, 7)] }),
   (60, { br := [(70, false)], ob := [(4, 1), (12, 1), (14, 5)] }),
   (107, { op := [(2, 11, .br true)], gd := [(2, 5, true), (2, 6, true), (2, 7, true), (2, 8, true), (2, 9, true), (2, 10, true)], ob := [(1, 2)] }),
   (90, { ob := [(1, 1)] }),
   (9, { op := [(3, 9, .br false)], gd := [(3, 5, false), (3, 6, false), (3, 7, false), (3, 8, false)], br := [(20, false)], ob := [(7, 5)] }),
   (40, { br := [(6, false), (11, false), (16, false), (22, false)], ob := [(10, 1), (11, 1), (12, 1), (13, 1), (14, 2), (14, 3)] }),
   (55, { br := [(16, false)], ob := [(4, 6), (5, 6), (6, 2)] }),
   (86, { op := [(1, 7, .mrg), (1, 12, .mrg)], sp := [(1, 4), (1, 5), (1, 6), (1, 9), (1, 10), (1, 11)] }),
   (84, { op := [(1, 7, .mrg), (1, 12, .mrg)], br := [(16, true)], sp := [(1, 4), (1, 5), (1, 6), (1, 9), (1, 10), (1, 11)] }),
   (51, { ob := [(1, 2)] }),
   (33, { ob := [(1, 3), (1, 4)] }),
   (32, { br := [(10, false), (16, false), (23, false), (31, false), (39, true)] })] Try.prog 9 [AV.agg [AV.val (Value.int IntKind.i64 tos), AV.val (Value.int IntKind.i64 id), AV.val (Value.int IntKind.i64 flags), AV.val (Value.int IntKind.i64 part), AV.val (Value.int IntKind.i64 ttl), AV.val (Value.int IntKind.i64 proto), AV.val (Value.int IntKind.u8 f0), AV.val (Value.int IntKind.u8 f1), AV.val (Value.int IntKind.u8 f2), AV.val (Value.int IntKind.u8 f3), AV.val (Value.int IntKind.u8 t0), AV.val (Value.int IntKind.u8 t1), AV.val (Value.int IntKind.u8 t2), AV.val (Value.int IntKind.u8 t3), AV.bytes opts, AV.bytes body], AV.val (Value.int IntKind.i64 now)] [] 0 =
   some (AV.val (Value.bool true), [], 887,
   rp 5 (decide ((↑(List.length body) : Int) > (1500 : Int)) = false) (
   (decide ((↑(List.length opts) : Int) > (60 : Int)) = false) ::
   ((!(t0 == (203 : Int) && (t1 == (0 : Int) && (t2 == (113 : Int) && (t3 == (7 : Int) && true))))) = false) ::
   rp 4 ((part == (0 : Int)) = true → (part == (0 : Int)) = true) (
   ((!bif part == (0 : Int) then bits BinOp.and IntKind.i64 flags (1 : Int) == (0 : Int) else false) = false) ::
   ((proto == (17 : Int)) = false) ::
   ((proto == (6 : Int)) = false) ::
   ((proto == (1 : Int)) = true) ::
   ((proto != (1 : Int)) = false) ::
   rp 4 ((part == (0 : Int)) = true → (part == (0 : Int)) = true) (
   ((!bif part == (0 : Int) then bits BinOp.and IntKind.i64 flags (1 : Int) == (0 : Int) else false) = false) ::
   (decide ((↑(List.length body) : Int) < (8 : Int)) = false) ::
   (True) ::
   (List.length body ≤ 100000000) ::
   ((!ofL body == 0) = false) ::
   (True) ::
   (0 = 0 ∧ 0 + List.length body ≤ 1000000000) ::
   (1 ≤ 0 + List.length body) ::
   (0 + (0 + List.length body) ≤ List.length body) ::
   (1 ≤ 0 + List.length body - 1) ::
   (1 + (0 + List.length body - 1) ≤ List.length body) ::
   (2 ≤ 0 + List.length body - 1 - 1) ::
   (2 + (0 + List.length body - 1 - 1) ≤ List.length body) ::
   (4 ≤ 0 + List.length body - 1 - 1 - 2) ::
   (4 + (0 + List.length body - 1 - 1 - 2) ≤ List.length body) ::
   (decide ((↑(0 + List.length body - 1 - 1 - 2 - 4) : Int) > (↑(0 + List.length body - 1 - 1 - 2 - 4) : Int)) = false) ::
   ((0 : Int) ≤ (0 : Int)) ::
   rp 2 ((0 : Int) ≤ (↑(0 + List.length body - 1 - 1 - 2 - 4) : Int)) (
   (0 ≤ 0 + List.length body - 1 - 1 - 2 - 4 ∧ 0 + List.length body - 1 - 1 - 2 - 4 ≤ 0 + List.length body - 1 - 1 - 2 - 4 ∧ 8 + (0 + List.length body - 1 - 1 - 2 - 4) ≤ List.length body) ::
   rp 2 ((0 : Int) ≤ (↑(0 + List.length body - 1 - 1 - 2 - 4) : Int)) (
   (0 + List.length body - 1 - 1 - 2 - 4 ≤ 0 + List.length body - 1 - 1 - 2 - 4 ∧ 8 + (0 + List.length body - 1 - 1 - 2 - 4) ≤ List.length body) ::
   (8 + (0 + List.length body - 1 - 1 - 2 - 4) ≤ List.length body) ::
   (0 = 0 ∧ 0 + (0 + List.length body - 1 - 1 - 2 - 4) ≤ 1000000000) ::
   rp 3 (((↑(at8 body 0) : Int) != (8 : Int)) = true → ((↑(at8 body 0) : Int) != (8 : Int)) = true) (
   rp 2 ((!bif (↑(at8 body 0) : Int) != (8 : Int) then (↑(at8 body 0) : Int) != (0 : Int) else false) = true → (!bif (↑(at8 body 0) : Int) != (8 : Int) then (↑(at8 body 0) : Int) != (0 : Int) else false) = true) (
   ((bif (↑(at8 body 0) : Int) != (8 : Int) then (↑(at8 body 0) : Int) != (0 : Int) else false) = false → (!bif (↑(at8 body 0) : Int) != (8 : Int) then (↑(at8 body 0) : Int) != (0 : Int) else false) = true) ::
   ((bif bif (↑(at8 body 0) : Int) != (8 : Int) then (↑(at8 body 0) : Int) != (0 : Int) else false then true else (↑(at8 body 1) : Int) != (0 : Int)) = true) ::
   rp 2 ((!(↑(at8 body 0) : Int) == (3 : Int)) = true → (!(↑(at8 body 0) : Int) == (3 : Int)) = true) (
   (((↑(at8 body 0) : Int) == (3 : Int)) = false → (!(↑(at8 body 0) : Int) == (3 : Int)) = true) ::
   rp 2 ((!bif (↑(at8 body 0) : Int) == (3 : Int) then true else (↑(at8 body 0) : Int) == (11 : Int)) = true → (!bif (↑(at8 body 0) : Int) == (3 : Int) then true else (↑(at8 body 0) : Int) == (11 : Int)) = true) (
   ((bif (↑(at8 body 0) : Int) == (3 : Int) then true else (↑(at8 body 0) : Int) == (11 : Int)) = false → (!bif (↑(at8 body 0) : Int) == (3 : Int) then true else (↑(at8 body 0) : Int) == (11 : Int)) = true) ::
   ((!bif bif (↑(at8 body 0) : Int) == (3 : Int) then true else (↑(at8 body 0) : Int) == (11 : Int) then true else (↑(at8 body 0) : Int) == (12 : Int)) = false) ::
   (0 + (0 + (0 + List.length body - 1 - 1 - 2 - 4)) ≤ List.length (List.take (0 + List.length body - 1 - 1 - 2 - 4) (List.drop 8 body))) ::
   (0 = 0 ∧ 0 + (0 + (0 + List.length body - 1 - 1 - 2 - 4)) ≤ 1000000000) ::
   rp 7 (decide ((↑(0 + (0 + (0 + List.length body - 1 - 1 - 2 - 4))) : Int) < (24 : Int)) = true) ( []))))))))))) := by kernel_rfl

set_option maxRecDepth 100000 in
theorem natShut_i_f_ver (tos : Int) (id : Int) (flags : Int) (part : Int) (ttl : Int) (proto : Int) (f0 : Int) (f1 : Int) (f2 : Int) (f3 : Int) (t0 : Int) (t1 : Int) (t2 : Int) (t3 : Int) (opts : List UInt8) (body : List UInt8) (now : Int) : outT kTT [(47, { op := [(1, 8, .mrg)], sp := [(1, 4), (1, 5), (1, 6), (1, 7)] }),
   (60, { br := [(70, false)], ob := [(4, 1), (12, 1), (14, 5)] }),
   (107, { op := [(2, 8, .get), (2, 11, .br false)], gd := [(2, 5, false), (2, 6, false), (2, 7, false), (2, 8, false), (2, 9, false), (2, 10, false)], br := [(20, true)], ob := [(1, 2), (2, 7), (2, 8)] }),
   (90, { ob := [(1, 1)] }),
   (9, { op := [(3, 9, .br false)], gd := [(3, 5, false), (3, 6, false), (3, 7, false), (3, 8, false)], br := [(20, false)], ob := [(7, 5)] }),
   (40, { br := [(6, false), (11, false), (16, false), (22, false)], ob := [(10, 1), (11, 1), (12, 1), (13, 1), (14, 2), (14, 3)] }),
   (55, { br := [(16, false)], ob := [(4, 6), (5, 6), (6, 2)] }),
   (86, { op := [(1, 7, .mrg), (1, 12, .mrg)], sp := [(1, 4), (1, 5), (1, 6), (1, 9), (1, 10), (1, 11)] }),
   (84, { op := [(1, 7, .mrg), (1, 12, .mrg)], br := [(16, true)], sp := [(1, 4), (1, 5), (1, 6), (1, 9), (1, 10), (1, 11)] }),
   (51, { ob := [(1, 2)] }),
   (33, { ob := [(1, 3), (1, 4)] }),
   (32, { br := [(10, false), (16, false), (23, false), (31, false), (39, true)] })] Try.prog 9 [AV.agg [AV.val (Value.int IntKind.i64 tos), AV.val (Value.int IntKind.i64 id), AV.val (Value.int IntKind.i64 flags), AV.val (Value.int IntKind.i64 part), AV.val (Value.int IntKind.i64 ttl), AV.val (Value.int IntKind.i64 proto), AV.val (Value.int IntKind.u8 f0), AV.val (Value.int IntKind.u8 f1), AV.val (Value.int IntKind.u8 f2), AV.val (Value.int IntKind.u8 f3), AV.val (Value.int IntKind.u8 t0), AV.val (Value.int IntKind.u8 t1), AV.val (Value.int IntKind.u8 t2), AV.val (Value.int IntKind.u8 t3), AV.bytes opts, AV.bytes body], AV.val (Value.int IntKind.i64 now)] [] 0 =
   some (AV.val (Value.bool true), [], 887,
   rp 5 (decide ((↑(List.length body) : Int) > (1500 : Int)) = false) (
   (decide ((↑(List.length opts) : Int) > (60 : Int)) = false) ::
   ((!(t0 == (203 : Int) && (t1 == (0 : Int) && (t2 == (113 : Int) && (t3 == (7 : Int) && true))))) = false) ::
   rp 4 ((part == (0 : Int)) = true → (part == (0 : Int)) = true) (
   ((!bif part == (0 : Int) then bits BinOp.and IntKind.i64 flags (1 : Int) == (0 : Int) else false) = false) ::
   ((proto == (17 : Int)) = false) ::
   ((proto == (6 : Int)) = false) ::
   ((proto == (1 : Int)) = true) ::
   ((proto != (1 : Int)) = false) ::
   rp 4 ((part == (0 : Int)) = true → (part == (0 : Int)) = true) (
   ((!bif part == (0 : Int) then bits BinOp.and IntKind.i64 flags (1 : Int) == (0 : Int) else false) = false) ::
   (decide ((↑(List.length body) : Int) < (8 : Int)) = false) ::
   (True) ::
   (List.length body ≤ 100000000) ::
   ((!ofL body == 0) = false) ::
   (True) ::
   (0 = 0 ∧ 0 + List.length body ≤ 1000000000) ::
   (1 ≤ 0 + List.length body) ::
   (0 + (0 + List.length body) ≤ List.length body) ::
   (1 ≤ 0 + List.length body - 1) ::
   (1 + (0 + List.length body - 1) ≤ List.length body) ::
   (2 ≤ 0 + List.length body - 1 - 1) ::
   (2 + (0 + List.length body - 1 - 1) ≤ List.length body) ::
   (4 ≤ 0 + List.length body - 1 - 1 - 2) ::
   (4 + (0 + List.length body - 1 - 1 - 2) ≤ List.length body) ::
   (decide ((↑(0 + List.length body - 1 - 1 - 2 - 4) : Int) > (↑(0 + List.length body - 1 - 1 - 2 - 4) : Int)) = false) ::
   ((0 : Int) ≤ (0 : Int)) ::
   rp 2 ((0 : Int) ≤ (↑(0 + List.length body - 1 - 1 - 2 - 4) : Int)) (
   (0 ≤ 0 + List.length body - 1 - 1 - 2 - 4 ∧ 0 + List.length body - 1 - 1 - 2 - 4 ≤ 0 + List.length body - 1 - 1 - 2 - 4 ∧ 8 + (0 + List.length body - 1 - 1 - 2 - 4) ≤ List.length body) ::
   rp 2 ((0 : Int) ≤ (↑(0 + List.length body - 1 - 1 - 2 - 4) : Int)) (
   (0 + List.length body - 1 - 1 - 2 - 4 ≤ 0 + List.length body - 1 - 1 - 2 - 4 ∧ 8 + (0 + List.length body - 1 - 1 - 2 - 4) ≤ List.length body) ::
   (8 + (0 + List.length body - 1 - 1 - 2 - 4) ≤ List.length body) ::
   (0 = 0 ∧ 0 + (0 + List.length body - 1 - 1 - 2 - 4) ≤ 1000000000) ::
   rp 3 (((↑(at8 body 0) : Int) != (8 : Int)) = true → ((↑(at8 body 0) : Int) != (8 : Int)) = true) (
   rp 2 ((!bif (↑(at8 body 0) : Int) != (8 : Int) then (↑(at8 body 0) : Int) != (0 : Int) else false) = true → (!bif (↑(at8 body 0) : Int) != (8 : Int) then (↑(at8 body 0) : Int) != (0 : Int) else false) = true) (
   ((bif (↑(at8 body 0) : Int) != (8 : Int) then (↑(at8 body 0) : Int) != (0 : Int) else false) = false → (!bif (↑(at8 body 0) : Int) != (8 : Int) then (↑(at8 body 0) : Int) != (0 : Int) else false) = true) ::
   ((bif bif (↑(at8 body 0) : Int) != (8 : Int) then (↑(at8 body 0) : Int) != (0 : Int) else false then true else (↑(at8 body 1) : Int) != (0 : Int)) = true) ::
   rp 2 ((!(↑(at8 body 0) : Int) == (3 : Int)) = true → (!(↑(at8 body 0) : Int) == (3 : Int)) = true) (
   (((↑(at8 body 0) : Int) == (3 : Int)) = false → (!(↑(at8 body 0) : Int) == (3 : Int)) = true) ::
   rp 2 ((!bif (↑(at8 body 0) : Int) == (3 : Int) then true else (↑(at8 body 0) : Int) == (11 : Int)) = true → (!bif (↑(at8 body 0) : Int) == (3 : Int) then true else (↑(at8 body 0) : Int) == (11 : Int)) = true) (
   ((bif (↑(at8 body 0) : Int) == (3 : Int) then true else (↑(at8 body 0) : Int) == (11 : Int)) = false → (!bif (↑(at8 body 0) : Int) == (3 : Int) then true else (↑(at8 body 0) : Int) == (11 : Int)) = true) ::
   ((!bif bif (↑(at8 body 0) : Int) == (3 : Int) then true else (↑(at8 body 0) : Int) == (11 : Int) then true else (↑(at8 body 0) : Int) == (12 : Int)) = false) ::
   (0 + (0 + (0 + List.length body - 1 - 1 - 2 - 4)) ≤ List.length (List.take (0 + List.length body - 1 - 1 - 2 - 4) (List.drop 8 body))) ::
   (0 = 0 ∧ 0 + (0 + (0 + List.length body - 1 - 1 - 2 - 4)) ≤ 1000000000) ::
   rp 3 (decide ((↑(0 + (0 + (0 + List.length body - 1 - 1 - 2 - 4))) : Int) < (24 : Int)) = false) (
   ((0 : Int) ≤ (0 : Int) ∧ (0 : Int) < (↑(0 + (0 + (0 + List.length body - 1 - 1 - 2 - 4))) : Int)) ::
   (decide ((↑(0 + (0 + (0 + List.length body - 1 - 1 - 2 - 4))) : Int) < (24 : Int)) = false) ::
   (0 < List.length (List.take (0 + (0 + List.length body - 1 - 1 - 2 - 4)) (List.take (0 + List.length body - 1 - 1 - 2 - 4) (List.drop 8 body)))) ::
   rp 3 (decide ((↑(0 + (0 + (0 + List.length body - 1 - 1 - 2 - 4))) : Int) < (24 : Int)) = false) (
   ((Int.fdiv (↑(UInt8.toNat (List.getD (List.take (0 + (0 + List.length body - 1 - 1 - 2 - 4)) (List.take (0 + List.length body - 1 - 1 - 2 - 4) (List.drop 8 body))) 0 (0 : UInt8))) : Int) (16 : Int) != (4 : Int)) = true) :: [])))))))))))) := by kernel_rfl

set_option maxRecDepth 100000 in
theorem natShut_i_f_head (tos : Int) (id : Int) (flags : Int) (part : Int) (ttl : Int) (proto : Int) (f0 : Int) (f1 : Int) (f2 : Int) (f3 : Int) (t0 : Int) (t1 : Int) (t2 : Int) (t3 : Int) (opts : List UInt8) (body : List UInt8) (now : Int) : outT kTT [(47, { op := [(1, 8, .mrg)], sp := [(1, 4), (1, 5), (1, 6), (1, 7)] }),
   (60, { br := [(70, false)], ob := [(4, 1), (12, 1), (14, 5)] }),
   (107, { op := [(2, 8, .get), (2, 11, .br false), (4, 3, .get), (5, 11, .br true)], gd := [(2, 5, false), (2, 6, false), (2, 7, false), (2, 8, false), (2, 9, false), (2, 10, false), (5, 4, true), (5, 5, true), (5, 6, true), (5, 7, true), (5, 8, true), (5, 9, true), (5, 10, true)], br := [(20, false)], ob := [(1, 2), (2, 7), (2, 8), (4, 2), (4, 3)] }),
   (90, { ob := [(1, 1)] }),
   (9, { op := [(3, 9, .br false)], gd := [(3, 5, false), (3, 6, false), (3, 7, false), (3, 8, false)], br := [(20, false)], ob := [(7, 5)] }),
   (40, { br := [(6, false), (11, false), (16, false), (22, false)], ob := [(10, 1), (11, 1), (12, 1), (13, 1), (14, 2), (14, 3)] }),
   (55, { br := [(16, false)], ob := [(4, 6), (5, 6), (6, 2)] }),
   (86, { op := [(1, 7, .mrg), (1, 12, .mrg)], sp := [(1, 4), (1, 5), (1, 6), (1, 9), (1, 10), (1, 11)] }),
   (84, { op := [(1, 7, .mrg), (1, 12, .mrg)], br := [(16, true)], sp := [(1, 4), (1, 5), (1, 6), (1, 9), (1, 10), (1, 11)] }),
   (51, { ob := [(1, 2)] }),
   (33, { ob := [(1, 3), (1, 4)] }),
   (32, { br := [(10, false), (16, false), (23, false), (31, false), (39, true)] })] Try.prog 9 [AV.agg [AV.val (Value.int IntKind.i64 tos), AV.val (Value.int IntKind.i64 id), AV.val (Value.int IntKind.i64 flags), AV.val (Value.int IntKind.i64 part), AV.val (Value.int IntKind.i64 ttl), AV.val (Value.int IntKind.i64 proto), AV.val (Value.int IntKind.u8 f0), AV.val (Value.int IntKind.u8 f1), AV.val (Value.int IntKind.u8 f2), AV.val (Value.int IntKind.u8 f3), AV.val (Value.int IntKind.u8 t0), AV.val (Value.int IntKind.u8 t1), AV.val (Value.int IntKind.u8 t2), AV.val (Value.int IntKind.u8 t3), AV.bytes opts, AV.bytes body], AV.val (Value.int IntKind.i64 now)] [] 0 =
   some (AV.val (Value.bool true), [], 917,
   rp 5 (decide ((↑(List.length body) : Int) > (1500 : Int)) = false) (
   (decide ((↑(List.length opts) : Int) > (60 : Int)) = false) ::
   ((!(t0 == (203 : Int) && (t1 == (0 : Int) && (t2 == (113 : Int) && (t3 == (7 : Int) && true))))) = false) ::
   rp 4 ((part == (0 : Int)) = true → (part == (0 : Int)) = true) (
   ((!bif part == (0 : Int) then bits BinOp.and IntKind.i64 flags (1 : Int) == (0 : Int) else false) = false) ::
   ((proto == (17 : Int)) = false) ::
   ((proto == (6 : Int)) = false) ::
   ((proto == (1 : Int)) = true) ::
   ((proto != (1 : Int)) = false) ::
   rp 4 ((part == (0 : Int)) = true → (part == (0 : Int)) = true) (
   ((!bif part == (0 : Int) then bits BinOp.and IntKind.i64 flags (1 : Int) == (0 : Int) else false) = false) ::
   (decide ((↑(List.length body) : Int) < (8 : Int)) = false) ::
   (True) ::
   (List.length body ≤ 100000000) ::
   ((!ofL body == 0) = false) ::
   (True) ::
   (0 = 0 ∧ 0 + List.length body ≤ 1000000000) ::
   (1 ≤ 0 + List.length body) ::
   (0 + (0 + List.length body) ≤ List.length body) ::
   (1 ≤ 0 + List.length body - 1) ::
   (1 + (0 + List.length body - 1) ≤ List.length body) ::
   (2 ≤ 0 + List.length body - 1 - 1) ::
   (2 + (0 + List.length body - 1 - 1) ≤ List.length body) ::
   (4 ≤ 0 + List.length body - 1 - 1 - 2) ::
   (4 + (0 + List.length body - 1 - 1 - 2) ≤ List.length body) ::
   (decide ((↑(0 + List.length body - 1 - 1 - 2 - 4) : Int) > (↑(0 + List.length body - 1 - 1 - 2 - 4) : Int)) = false) ::
   ((0 : Int) ≤ (0 : Int)) ::
   rp 2 ((0 : Int) ≤ (↑(0 + List.length body - 1 - 1 - 2 - 4) : Int)) (
   (0 ≤ 0 + List.length body - 1 - 1 - 2 - 4 ∧ 0 + List.length body - 1 - 1 - 2 - 4 ≤ 0 + List.length body - 1 - 1 - 2 - 4 ∧ 8 + (0 + List.length body - 1 - 1 - 2 - 4) ≤ List.length body) ::
   rp 2 ((0 : Int) ≤ (↑(0 + List.length body - 1 - 1 - 2 - 4) : Int)) (
   (0 + List.length body - 1 - 1 - 2 - 4 ≤ 0 + List.length body - 1 - 1 - 2 - 4 ∧ 8 + (0 + List.length body - 1 - 1 - 2 - 4) ≤ List.length body) ::
   (8 + (0 + List.length body - 1 - 1 - 2 - 4) ≤ List.length body) ::
   (0 = 0 ∧ 0 + (0 + List.length body - 1 - 1 - 2 - 4) ≤ 1000000000) ::
   rp 3 (((↑(at8 body 0) : Int) != (8 : Int)) = true → ((↑(at8 body 0) : Int) != (8 : Int)) = true) (
   rp 2 ((!bif (↑(at8 body 0) : Int) != (8 : Int) then (↑(at8 body 0) : Int) != (0 : Int) else false) = true → (!bif (↑(at8 body 0) : Int) != (8 : Int) then (↑(at8 body 0) : Int) != (0 : Int) else false) = true) (
   ((bif (↑(at8 body 0) : Int) != (8 : Int) then (↑(at8 body 0) : Int) != (0 : Int) else false) = false → (!bif (↑(at8 body 0) : Int) != (8 : Int) then (↑(at8 body 0) : Int) != (0 : Int) else false) = true) ::
   ((bif bif (↑(at8 body 0) : Int) != (8 : Int) then (↑(at8 body 0) : Int) != (0 : Int) else false then true else (↑(at8 body 1) : Int) != (0 : Int)) = true) ::
   rp 2 ((!(↑(at8 body 0) : Int) == (3 : Int)) = true → (!(↑(at8 body 0) : Int) == (3 : Int)) = true) (
   (((↑(at8 body 0) : Int) == (3 : Int)) = false → (!(↑(at8 body 0) : Int) == (3 : Int)) = true) ::
   rp 2 ((!bif (↑(at8 body 0) : Int) == (3 : Int) then true else (↑(at8 body 0) : Int) == (11 : Int)) = true → (!bif (↑(at8 body 0) : Int) == (3 : Int) then true else (↑(at8 body 0) : Int) == (11 : Int)) = true) (
   ((bif (↑(at8 body 0) : Int) == (3 : Int) then true else (↑(at8 body 0) : Int) == (11 : Int)) = false → (!bif (↑(at8 body 0) : Int) == (3 : Int) then true else (↑(at8 body 0) : Int) == (11 : Int)) = true) ::
   ((!bif bif (↑(at8 body 0) : Int) == (3 : Int) then true else (↑(at8 body 0) : Int) == (11 : Int) then true else (↑(at8 body 0) : Int) == (12 : Int)) = false) ::
   (0 + (0 + (0 + List.length body - 1 - 1 - 2 - 4)) ≤ List.length (List.take (0 + List.length body - 1 - 1 - 2 - 4) (List.drop 8 body))) ::
   (0 = 0 ∧ 0 + (0 + (0 + List.length body - 1 - 1 - 2 - 4)) ≤ 1000000000) ::
   rp 3 (decide ((↑(0 + (0 + (0 + List.length body - 1 - 1 - 2 - 4))) : Int) < (24 : Int)) = false) (
   ((0 : Int) ≤ (0 : Int) ∧ (0 : Int) < (↑(0 + (0 + (0 + List.length body - 1 - 1 - 2 - 4))) : Int)) ::
   (decide ((↑(0 + (0 + (0 + List.length body - 1 - 1 - 2 - 4))) : Int) < (24 : Int)) = false) ::
   (0 < List.length (List.take (0 + (0 + List.length body - 1 - 1 - 2 - 4)) (List.take (0 + List.length body - 1 - 1 - 2 - 4) (List.drop 8 body)))) ::
   rp 3 (decide ((↑(0 + (0 + (0 + List.length body - 1 - 1 - 2 - 4))) : Int) < (24 : Int)) = false) (
   ((Int.fdiv (↑(UInt8.toNat (List.getD (List.take (0 + (0 + List.length body - 1 - 1 - 2 - 4)) (List.take (0 + List.length body - 1 - 1 - 2 - 4) (List.drop 8 body))) 0 (0 : UInt8))) : Int) (16 : Int) != (4 : Int)) = false) ::
   ((0 : Int) ≤ (0 : Int) ∧ (0 : Int) < (↑(0 + (0 + (0 + List.length body - 1 - 1 - 2 - 4))) : Int)) ::
   (0 < List.length (List.take (0 + (0 + List.length body - 1 - 1 - 2 - 4)) (List.take (0 + List.length body - 1 - 1 - 2 - 4) (List.drop 8 body)))) ::
   rp 8 (decide (IntKind.wrap IntKind.i64 (IntKind.wrap IntKind.i64 (bits BinOp.and IntKind.u8 (↑(UInt8.toNat (List.getD (List.take (0 + (0 + List.length body - 1 - 1 - 2 - 4)) (List.take (0 + List.length body - 1 - 1 - 2 - 4) (List.drop 8 body))) 0 (0 : UInt8))) : Int) (15 : Int)) * (4 : Int)) < (20 : Int)) = true) ( []))))))))))))) := by kernel_rfl

set_option maxRecDepth 100000 in
theorem natShut_i_f_cut (tos : Int) (id : Int) (flags : Int) (part : Int) (ttl : Int) (proto : Int) (f0 : Int) (f1 : Int) (f2 : Int) (f3 : Int) (t0 : Int) (t1 : Int) (t2 : Int) (t3 : Int) (opts : List UInt8) (body : List UInt8) (now : Int) : outT kTT [(47, { op := [(1, 8, .mrg)], sp := [(1, 4), (1, 5), (1, 6), (1, 7)] }),
   (60, { br := [(70, false)], ob := [(4, 1), (12, 1), (14, 5)] }),
   (107, { op := [(2, 8, .get), (2, 11, .br false), (4, 3, .get), (5, 11, .br false), (5, 20, .br true)], gd := [(2, 5, false), (2, 6, false), (2, 7, false), (2, 8, false), (2, 9, false), (2, 10, false), (5, 4, false), (5, 5, false), (5, 6, false), (5, 7, false), (5, 8, false), (5, 9, false), (5, 10, false), (5, 13, true), (5, 14, true), (5, 15, true), (5, 16, true), (5, 17, true), (5, 18, true), (5, 19, true)], br := [(20, false)], ob := [(1, 2), (2, 7), (2, 8), (4, 2), (4, 3)] }),
   (90, { ob := [(1, 1)] }),
   (9, { op := [(3, 9, .br false)], gd := [(3, 5, false), (3, 6, false), (3, 7, false), (3, 8, false)], br := [(20, false)], ob := [(7, 5)] }),
   (40, { br := [(6, false), (11, false), (16, false), (22, false)], ob := [(10, 1), (11, 1), (12, 1), (13, 1), (14, 2), (14, 3)] }),
   (55, { br := [(16, false)], ob := [(4, 6), (5, 6), (6, 2)] }),
   (86, { op := [(1, 7, .mrg), (1, 12, .mrg)], sp := [(1, 4), (1, 5), (1, 6), (1, 9), (1, 10), (1, 11)] }),
   (84, { op := [(1, 7, .mrg), (1, 12, .mrg)], br := [(16, true)], sp := [(1, 4), (1, 5), (1, 6), (1, 9), (1, 10), (1, 11)] }),
   (51, { ob := [(1, 2)] }),
   (33, { ob := [(1, 3), (1, 4)] }),
   (32, { br := [(10, false), (16, false), (23, false), (31, false), (39, true)] })] Try.prog 9 [AV.agg [AV.val (Value.int IntKind.i64 tos), AV.val (Value.int IntKind.i64 id), AV.val (Value.int IntKind.i64 flags), AV.val (Value.int IntKind.i64 part), AV.val (Value.int IntKind.i64 ttl), AV.val (Value.int IntKind.i64 proto), AV.val (Value.int IntKind.u8 f0), AV.val (Value.int IntKind.u8 f1), AV.val (Value.int IntKind.u8 f2), AV.val (Value.int IntKind.u8 f3), AV.val (Value.int IntKind.u8 t0), AV.val (Value.int IntKind.u8 t1), AV.val (Value.int IntKind.u8 t2), AV.val (Value.int IntKind.u8 t3), AV.bytes opts, AV.bytes body], AV.val (Value.int IntKind.i64 now)] [] 0 =
   some (AV.val (Value.bool true), [], 917,
   rp 5 (decide ((↑(List.length body) : Int) > (1500 : Int)) = false) (
   (decide ((↑(List.length opts) : Int) > (60 : Int)) = false) ::
   ((!(t0 == (203 : Int) && (t1 == (0 : Int) && (t2 == (113 : Int) && (t3 == (7 : Int) && true))))) = false) ::
   rp 4 ((part == (0 : Int)) = true → (part == (0 : Int)) = true) (
   ((!bif part == (0 : Int) then bits BinOp.and IntKind.i64 flags (1 : Int) == (0 : Int) else false) = false) ::
   ((proto == (17 : Int)) = false) ::
   ((proto == (6 : Int)) = false) ::
   ((proto == (1 : Int)) = true) ::
   ((proto != (1 : Int)) = false) ::
   rp 4 ((part == (0 : Int)) = true → (part == (0 : Int)) = true) (
   ((!bif part == (0 : Int) then bits BinOp.and IntKind.i64 flags (1 : Int) == (0 : Int) else false) = false) ::
   (decide ((↑(List.length body) : Int) < (8 : Int)) = false) ::
   (True) ::
   (List.length body ≤ 100000000) ::
   ((!ofL body == 0) = false) ::
   (True) ::
   (0 = 0 ∧ 0 + List.length body ≤ 1000000000) ::
   (1 ≤ 0 + List.length body) ::
   (0 + (0 + List.length body) ≤ List.length body) ::
   (1 ≤ 0 + List.length body - 1) ::
   (1 + (0 + List.length body - 1) ≤ List.length body) ::
   (2 ≤ 0 + List.length body - 1 - 1) ::
   (2 + (0 + List.length body - 1 - 1) ≤ List.length body) ::
   (4 ≤ 0 + List.length body - 1 - 1 - 2) ::
   (4 + (0 + List.length body - 1 - 1 - 2) ≤ List.length body) ::
   (decide ((↑(0 + List.length body - 1 - 1 - 2 - 4) : Int) > (↑(0 + List.length body - 1 - 1 - 2 - 4) : Int)) = false) ::
   ((0 : Int) ≤ (0 : Int)) ::
   rp 2 ((0 : Int) ≤ (↑(0 + List.length body - 1 - 1 - 2 - 4) : Int)) (
   (0 ≤ 0 + List.length body - 1 - 1 - 2 - 4 ∧ 0 + List.length body - 1 - 1 - 2 - 4 ≤ 0 + List.length body - 1 - 1 - 2 - 4 ∧ 8 + (0 + List.length body - 1 - 1 - 2 - 4) ≤ List.length body) ::
   rp 2 ((0 : Int) ≤ (↑(0 + List.length body - 1 - 1 - 2 - 4) : Int)) (
   (0 + List.length body - 1 - 1 - 2 - 4 ≤ 0 + List.length body - 1 - 1 - 2 - 4 ∧ 8 + (0 + List.length body - 1 - 1 - 2 - 4) ≤ List.length body) ::
   (8 + (0 + List.length body - 1 - 1 - 2 - 4) ≤ List.length body) ::
   (0 = 0 ∧ 0 + (0 + List.length body - 1 - 1 - 2 - 4) ≤ 1000000000) ::
   rp 3 (((↑(at8 body 0) : Int) != (8 : Int)) = true → ((↑(at8 body 0) : Int) != (8 : Int)) = true) (
   rp 2 ((!bif (↑(at8 body 0) : Int) != (8 : Int) then (↑(at8 body 0) : Int) != (0 : Int) else false) = true → (!bif (↑(at8 body 0) : Int) != (8 : Int) then (↑(at8 body 0) : Int) != (0 : Int) else false) = true) (
   ((bif (↑(at8 body 0) : Int) != (8 : Int) then (↑(at8 body 0) : Int) != (0 : Int) else false) = false → (!bif (↑(at8 body 0) : Int) != (8 : Int) then (↑(at8 body 0) : Int) != (0 : Int) else false) = true) ::
   ((bif bif (↑(at8 body 0) : Int) != (8 : Int) then (↑(at8 body 0) : Int) != (0 : Int) else false then true else (↑(at8 body 1) : Int) != (0 : Int)) = true) ::
   rp 2 ((!(↑(at8 body 0) : Int) == (3 : Int)) = true → (!(↑(at8 body 0) : Int) == (3 : Int)) = true) (
   (((↑(at8 body 0) : Int) == (3 : Int)) = false → (!(↑(at8 body 0) : Int) == (3 : Int)) = true) ::
   rp 2 ((!bif (↑(at8 body 0) : Int) == (3 : Int) then true else (↑(at8 body 0) : Int) == (11 : Int)) = true → (!bif (↑(at8 body 0) : Int) == (3 : Int) then true else (↑(at8 body 0) : Int) == (11 : Int)) = true) (
   ((bif (↑(at8 body 0) : Int) == (3 : Int) then true else (↑(at8 body 0) : Int) == (11 : Int)) = false → (!bif (↑(at8 body 0) : Int) == (3 : Int) then true else (↑(at8 body 0) : Int) == (11 : Int)) = true) ::
   ((!bif bif (↑(at8 body 0) : Int) == (3 : Int) then true else (↑(at8 body 0) : Int) == (11 : Int) then true else (↑(at8 body 0) : Int) == (12 : Int)) = false) ::
   (0 + (0 + (0 + List.length body - 1 - 1 - 2 - 4)) ≤ List.length (List.take (0 + List.length body - 1 - 1 - 2 - 4) (List.drop 8 body))) ::
   (0 = 0 ∧ 0 + (0 + (0 + List.length body - 1 - 1 - 2 - 4)) ≤ 1000000000) ::
   rp 3 (decide ((↑(0 + (0 + (0 + List.length body - 1 - 1 - 2 - 4))) : Int) < (24 : Int)) = false) (
   ((0 : Int) ≤ (0 : Int) ∧ (0 : Int) < (↑(0 + (0 + (0 + List.length body - 1 - 1 - 2 - 4))) : Int)) ::
   (decide ((↑(0 + (0 + (0 + List.length body - 1 - 1 - 2 - 4))) : Int) < (24 : Int)) = false) ::
   (0 < List.length (List.take (0 + (0 + List.length body - 1 - 1 - 2 - 4)) (List.take (0 + List.length body - 1 - 1 - 2 - 4) (List.drop 8 body)))) ::
   rp 3 (decide ((↑(0 + (0 + (0 + List.length body - 1 - 1 - 2 - 4))) : Int) < (24 : Int)) = false) (
   ((Int.fdiv (↑(UInt8.toNat (List.getD (List.take (0 + (0 + List.length body - 1 - 1 - 2 - 4)) (List.take (0 + List.length body - 1 - 1 - 2 - 4) (List.drop 8 body))) 0 (0 : UInt8))) : Int) (16 : Int) != (4 : Int)) = false) ::
   ((0 : Int) ≤ (0 : Int) ∧ (0 : Int) < (↑(0 + (0 + (0 + List.length body - 1 - 1 - 2 - 4))) : Int)) ::
   (0 < List.length (List.take (0 + (0 + List.length body - 1 - 1 - 2 - 4)) (List.take (0 + List.length body - 1 - 1 - 2 - 4) (List.drop 8 body)))) ::
   rp 8 (decide (IntKind.wrap IntKind.i64 (IntKind.wrap IntKind.i64 (bits BinOp.and IntKind.u8 (↑(UInt8.toNat (List.getD (List.take (0 + (0 + List.length body - 1 - 1 - 2 - 4)) (List.take (0 + List.length body - 1 - 1 - 2 - 4) (List.drop 8 body))) 0 (0 : UInt8))) : Int) (15 : Int)) * (4 : Int)) < (20 : Int)) = false) (
   rp 8 (decide (IntKind.wrap IntKind.i64 (IntKind.wrap IntKind.i64 (IntKind.wrap IntKind.i64 (bits BinOp.and IntKind.u8 (↑(UInt8.toNat (List.getD (List.take (0 + (0 + List.length body - 1 - 1 - 2 - 4)) (List.take (0 + List.length body - 1 - 1 - 2 - 4) (List.drop 8 body))) 0 (0 : UInt8))) : Int) (15 : Int)) * (4 : Int)) + (4 : Int)) > (↑(0 + (0 + (0 + List.length body - 1 - 1 - 2 - 4))) : Int)) = true) ( [])))))))))))))) := by kernel_rfl

set_option maxRecDepth 100000 in
theorem natShut_i_f_sum (tos : Int) (id : Int) (flags : Int) (part : Int) (ttl : Int) (proto : Int) (f0 : Int) (f1 : Int) (f2 : Int) (f3 : Int) (t0 : Int) (t1 : Int) (t2 : Int) (t3 : Int) (opts : List UInt8) (body : List UInt8) (now : Int) : outT kTT [(47, { op := [(1, 8, .mrg)], sp := [(1, 4), (1, 5), (1, 6), (1, 7)] }),
   (60, { br := [(70, false)], ob := [(4, 1), (12, 1), (14, 5)] }),
   (107, { op := [(2, 8, .get), (2, 11, .br false), (4, 3, .get), (5, 11, .br false), (5, 20, .br false)], gd := [(2, 5, false), (2, 6, false), (2, 7, false), (2, 8, false), (2, 9, false), (2, 10, false), (5, 4, false), (5, 5, false), (5, 6, false), (5, 7, false), (5, 8, false), (5, 9, false), (5, 10, false), (5, 13, false), (5, 14, false), (5, 15, false), (5, 16, false), (5, 17, false), (5, 18, false), (5, 19, false)], br := [(20, false), (50, true)], ob := [(1, 2), (2, 7), (2, 8), (4, 2), (4, 3), (5, 17), (5, 18)] }),
   (90, { ob := [(1, 1)] }),
   (9, { op := [(3, 9, .br false)], gd := [(3, 5, false), (3, 6, false), (3, 7, false), (3, 8, false)], br := [(20, false)], ob := [(7, 5)] }),
   (40, { br := [(6, false), (11, false), (16, false), (22, false)], ob := [(10, 1), (11, 1), (12, 1), (13, 1), (14, 2), (14, 3)] }),
   (55, { br := [(16, false)], ob := [(4, 6), (5, 6), (6, 2)] }),
   (86, { op := [(1, 7, .mrg), (1, 12, .mrg)], sp := [(1, 4), (1, 5), (1, 6), (1, 9), (1, 10), (1, 11)] }),
   (84, { op := [(1, 7, .mrg), (1, 12, .mrg)], br := [(16, true)], sp := [(1, 4), (1, 5), (1, 6), (1, 9), (1, 10), (1, 11)] }),
   (51, { ob := [(1, 2)] }),
   (33, { ob := [(1, 3), (1, 4)] }),
   (32, { br := [(10, false), (16, false), (23, false), (31, false), (39, true)] })] Try.prog 9 [AV.agg [AV.val (Value.int IntKind.i64 tos), AV.val (Value.int IntKind.i64 id), AV.val (Value.int IntKind.i64 flags), AV.val (Value.int IntKind.i64 part), AV.val (Value.int IntKind.i64 ttl), AV.val (Value.int IntKind.i64 proto), AV.val (Value.int IntKind.u8 f0), AV.val (Value.int IntKind.u8 f1), AV.val (Value.int IntKind.u8 f2), AV.val (Value.int IntKind.u8 f3), AV.val (Value.int IntKind.u8 t0), AV.val (Value.int IntKind.u8 t1), AV.val (Value.int IntKind.u8 t2), AV.val (Value.int IntKind.u8 t3), AV.bytes opts, AV.bytes body], AV.val (Value.int IntKind.i64 now)] [] 0 =
   some (AV.val (Value.bool true), [], 917,
   rp 5 (decide ((↑(List.length body) : Int) > (1500 : Int)) = false) (
   (decide ((↑(List.length opts) : Int) > (60 : Int)) = false) ::
   ((!(t0 == (203 : Int) && (t1 == (0 : Int) && (t2 == (113 : Int) && (t3 == (7 : Int) && true))))) = false) ::
   rp 4 ((part == (0 : Int)) = true → (part == (0 : Int)) = true) (
   ((!bif part == (0 : Int) then bits BinOp.and IntKind.i64 flags (1 : Int) == (0 : Int) else false) = false) ::
   ((proto == (17 : Int)) = false) ::
   ((proto == (6 : Int)) = false) ::
   ((proto == (1 : Int)) = true) ::
   ((proto != (1 : Int)) = false) ::
   rp 4 ((part == (0 : Int)) = true → (part == (0 : Int)) = true) (
   ((!bif part == (0 : Int) then bits BinOp.and IntKind.i64 flags (1 : Int) == (0 : Int) else false) = false) ::
   (decide ((↑(List.length body) : Int) < (8 : Int)) = false) ::
   (True) ::
   (List.length body ≤ 100000000) ::
   ((!ofL body == 0) = false) ::
   (True) ::
   (0 = 0 ∧ 0 + List.length body ≤ 1000000000) ::
   (1 ≤ 0 + List.length body) ::
   (0 + (0 + List.length body) ≤ List.length body) ::
   (1 ≤ 0 + List.length body - 1) ::
   (1 + (0 + List.length body - 1) ≤ List.length body) ::
   (2 ≤ 0 + List.length body - 1 - 1) ::
   (2 + (0 + List.length body - 1 - 1) ≤ List.length body) ::
   (4 ≤ 0 + List.length body - 1 - 1 - 2) ::
   (4 + (0 + List.length body - 1 - 1 - 2) ≤ List.length body) ::
   (decide ((↑(0 + List.length body - 1 - 1 - 2 - 4) : Int) > (↑(0 + List.length body - 1 - 1 - 2 - 4) : Int)) = false) ::
   ((0 : Int) ≤ (0 : Int)) ::
   rp 2 ((0 : Int) ≤ (↑(0 + List.length body - 1 - 1 - 2 - 4) : Int)) (
   (0 ≤ 0 + List.length body - 1 - 1 - 2 - 4 ∧ 0 + List.length body - 1 - 1 - 2 - 4 ≤ 0 + List.length body - 1 - 1 - 2 - 4 ∧ 8 + (0 + List.length body - 1 - 1 - 2 - 4) ≤ List.length body) ::
   rp 2 ((0 : Int) ≤ (↑(0 + List.length body - 1 - 1 - 2 - 4) : Int)) (
   (0 + List.length body - 1 - 1 - 2 - 4 ≤ 0 + List.length body - 1 - 1 - 2 - 4 ∧ 8 + (0 + List.length body - 1 - 1 - 2 - 4) ≤ List.length body) ::
   (8 + (0 + List.length body - 1 - 1 - 2 - 4) ≤ List.length body) ::
   (0 = 0 ∧ 0 + (0 + List.length body - 1 - 1 - 2 - 4) ≤ 1000000000) ::
   rp 3 (((↑(at8 body 0) : Int) != (8 : Int)) = true → ((↑(at8 body 0) : Int) != (8 : Int)) = true) (
   rp 2 ((!bif (↑(at8 body 0) : Int) != (8 : Int) then (↑(at8 body 0) : Int) != (0 : Int) else false) = true → (!bif (↑(at8 body 0) : Int) != (8 : Int) then (↑(at8 body 0) : Int) != (0 : Int) else false) = true) (
   ((bif (↑(at8 body 0) : Int) != (8 : Int) then (↑(at8 body 0) : Int) != (0 : Int) else false) = false → (!bif (↑(at8 body 0) : Int) != (8 : Int) then (↑(at8 body 0) : Int) != (0 : Int) else false) = true) ::
   ((bif bif (↑(at8 body 0) : Int) != (8 : Int) then (↑(at8 body 0) : Int) != (0 : Int) else false then true else (↑(at8 body 1) : Int) != (0 : Int)) = true) ::
   rp 2 ((!(↑(at8 body 0) : Int) == (3 : Int)) = true → (!(↑(at8 body 0) : Int) == (3 : Int)) = true) (
   (((↑(at8 body 0) : Int) == (3 : Int)) = false → (!(↑(at8 body 0) : Int) == (3 : Int)) = true) ::
   rp 2 ((!bif (↑(at8 body 0) : Int) == (3 : Int) then true else (↑(at8 body 0) : Int) == (11 : Int)) = true → (!bif (↑(at8 body 0) : Int) == (3 : Int) then true else (↑(at8 body 0) : Int) == (11 : Int)) = true) (
   ((bif (↑(at8 body 0) : Int) == (3 : Int) then true else (↑(at8 body 0) : Int) == (11 : Int)) = false → (!bif (↑(at8 body 0) : Int) == (3 : Int) then true else (↑(at8 body 0) : Int) == (11 : Int)) = true) ::
   ((!bif bif (↑(at8 body 0) : Int) == (3 : Int) then true else (↑(at8 body 0) : Int) == (11 : Int) then true else (↑(at8 body 0) : Int) == (12 : Int)) = false) ::
   (0 + (0 + (0 + List.length body - 1 - 1 - 2 - 4)) ≤ List.length (List.take (0 + List.length body - 1 - 1 - 2 - 4) (List.drop 8 body))) ::
   (0 = 0 ∧ 0 + (0 + (0 + List.length body - 1 - 1 - 2 - 4)) ≤ 1000000000) ::
   rp 3 (decide ((↑(0 + (0 + (0 + List.length body - 1 - 1 - 2 - 4))) : Int) < (24 : Int)) = false) (
   ((0 : Int) ≤ (0 : Int) ∧ (0 : Int) < (↑(0 + (0 + (0 + List.length body - 1 - 1 - 2 - 4))) : Int)) ::
   (decide ((↑(0 + (0 + (0 + List.length body - 1 - 1 - 2 - 4))) : Int) < (24 : Int)) = false) ::
   (0 < List.length (List.take (0 + (0 + List.length body - 1 - 1 - 2 - 4)) (List.take (0 + List.length body - 1 - 1 - 2 - 4) (List.drop 8 body)))) ::
   rp 3 (decide ((↑(0 + (0 + (0 + List.length body - 1 - 1 - 2 - 4))) : Int) < (24 : Int)) = false) (
   ((Int.fdiv (↑(UInt8.toNat (List.getD (List.take (0 + (0 + List.length body - 1 - 1 - 2 - 4)) (List.take (0 + List.length body - 1 - 1 - 2 - 4) (List.drop 8 body))) 0 (0 : UInt8))) : Int) (16 : Int) != (4 : Int)) = false) ::
   ((0 : Int) ≤ (0 : Int) ∧ (0 : Int) < (↑(0 + (0 + (0 + List.length body - 1 - 1 - 2 - 4))) : Int)) ::
   (0 < List.length (List.take (0 + (0 + List.length body - 1 - 1 - 2 - 4)) (List.take (0 + List.length body - 1 - 1 - 2 - 4) (List.drop 8 body)))) ::
   rp 8 (decide (IntKind.wrap IntKind.i64 (IntKind.wrap IntKind.i64 (bits BinOp.and IntKind.u8 (↑(UInt8.toNat (List.getD (List.take (0 + (0 + List.length body - 1 - 1 - 2 - 4)) (List.take (0 + List.length body - 1 - 1 - 2 - 4) (List.drop 8 body))) 0 (0 : UInt8))) : Int) (15 : Int)) * (4 : Int)) < (20 : Int)) = false) (
   rp 5 (decide (IntKind.wrap IntKind.i64 (IntKind.wrap IntKind.i64 (IntKind.wrap IntKind.i64 (bits BinOp.and IntKind.u8 (↑(UInt8.toNat (List.getD (List.take (0 + (0 + List.length body - 1 - 1 - 2 - 4)) (List.take (0 + List.length body - 1 - 1 - 2 - 4) (List.drop 8 body))) 0 (0 : UInt8))) : Int) (15 : Int)) * (4 : Int)) + (4 : Int)) > (↑(0 + (0 + (0 + List.length body - 1 - 1 - 2 - 4))) : Int)) = false) (
   ((0 : Int) ≤ (0 : Int)) ::
   ((0 : Int) ≤ IntKind.wrap IntKind.i64 (IntKind.wrap IntKind.i64 (bits BinOp.and IntKind.u8 (↑(UInt8.toNat (List.getD (List.take (0 + (0 + List.length body - 1 - 1 - 2 - 4)) (List.take (0 + List.length body - 1 - 1 - 2 - 4) (List.drop 8 body))) 0 (0 : UInt8))) : Int) (15 : Int)) * (4 : Int))) ::
   (0 ≤ Int.toNat (IntKind.wrap IntKind.i64 (IntKind.wrap IntKind.i64 (bits BinOp.and IntKind.u8 (↑(UInt8.toNat (List.getD (List.take (0 + (0 + List.length body - 1 - 1 - 2 - 4)) (List.take (0 + List.length body - 1 - 1 - 2 - 4) (List.drop 8 body))) 0 (0 : UInt8))) : Int) (15 : Int)) * (4 : Int))) ∧ 0 + Int.toNat (IntKind.wrap IntKind.i64 (IntKind.wrap IntKind.i64 (bits BinOp.and IntKind.u8 (↑(UInt8.toNat (List.getD (List.take (0 + (0 + List.length body - 1 - 1 - 2 - 4)) (List.take (0 + List.length body - 1 - 1 - 2 - 4) (List.drop 8 body))) 0 (0 : UInt8))) : Int) (15 : Int)) * (4 : Int))) ≤ List.length (List.take (0 + (0 + List.length body - 1 - 1 - 2 - 4)) (List.take (0 + List.length body - 1 - 1 - 2 - 4) (List.drop 8 body)))) ::
   (decide (IntKind.wrap IntKind.i64 (IntKind.wrap IntKind.i64 (IntKind.wrap IntKind.i64 (bits BinOp.and IntKind.u8 (↑(UInt8.toNat (List.getD (List.take (0 + (0 + List.length body - 1 - 1 - 2 - 4)) (List.take (0 + List.length body - 1 - 1 - 2 - 4) (List.drop 8 body))) 0 (0 : UInt8))) : Int) (15 : Int)) * (4 : Int)) + (4 : Int)) > (↑(0 + (0 + (0 + List.length body - 1 - 1 - 2 - 4))) : Int)) = false) ::
   (0 + Int.toNat (IntKind.wrap IntKind.i64 (IntKind.wrap IntKind.i64 (bits BinOp.and IntKind.u8 (↑(UInt8.toNat (List.getD (List.take (0 + (0 + List.length body - 1 - 1 - 2 - 4)) (List.take (0 + List.length body - 1 - 1 - 2 - 4) (List.drop 8 body))) 0 (0 : UInt8))) : Int) (15 : Int)) * (4 : Int))) ≤ List.length (List.take (0 + (0 + List.length body - 1 - 1 - 2 - 4)) (List.take (0 + List.length body - 1 - 1 - 2 - 4) (List.drop 8 body)))) ::
   (List.length (List.take (Int.toNat (IntKind.wrap IntKind.i64 (IntKind.wrap IntKind.i64 (bits BinOp.and IntKind.u8 (↑(UInt8.toNat (List.getD (List.take (0 + (0 + List.length body - 1 - 1 - 2 - 4)) (List.take (0 + List.length body - 1 - 1 - 2 - 4) (List.drop 8 body))) 0 (0 : UInt8))) : Int) (15 : Int)) * (4 : Int)))) (List.take (0 + (0 + List.length body - 1 - 1 - 2 - 4)) (List.take (0 + List.length body - 1 - 1 - 2 - 4) (List.drop 8 body)))) ≤ 100000000) ::
   rp 2 (decide (IntKind.wrap IntKind.i64 (IntKind.wrap IntKind.i64 (IntKind.wrap IntKind.i64 (bits BinOp.and IntKind.u8 (↑(UInt8.toNat (List.getD (List.take (0 + (0 + List.length body - 1 - 1 - 2 - 4)) (List.take (0 + List.length body - 1 - 1 - 2 - 4) (List.drop 8 body))) 0 (0 : UInt8))) : Int) (15 : Int)) * (4 : Int)) + (4 : Int)) > (↑(0 + (0 + (0 + List.length body - 1 - 1 - 2 - 4))) : Int)) = false) (
   ((!ofL (List.take (Int.toNat (IntKind.wrap IntKind.i64 (IntKind.wrap IntKind.i64 (bits BinOp.and IntKind.u8 (↑(UInt8.toNat (List.getD (List.take (0 + (0 + List.length body - 1 - 1 - 2 - 4)) (List.take (0 + List.length body - 1 - 1 - 2 - 4) (List.drop 8 body))) 0 (0 : UInt8))) : Int) (15 : Int)) * (4 : Int)))) (List.take (0 + (0 + List.length body - 1 - 1 - 2 - 4)) (List.take (0 + List.length body - 1 - 1 - 2 - 4) (List.drop 8 body)))) == 0) = true) :: []))))))))))))))) := by kernel_rfl

set_option maxRecDepth 100000 in
theorem natShut_i_f_from (tos : Int) (id : Int) (flags : Int) (part : Int) (ttl : Int) (proto : Int) (f0 : Int) (f1 : Int) (f2 : Int) (f3 : Int) (t0 : Int) (t1 : Int) (t2 : Int) (t3 : Int) (opts : List UInt8) (body : List UInt8) (now : Int) : outT kTT [(47, { op := [(1, 8, .mrg)], sp := [(1, 4), (1, 5), (1, 6), (1, 7)] }),
   (60, { br := [(70, false)], ob := [(4, 1), (12, 1), (14, 5)] }),
   (107, { op := [(2, 8, .get), (2, 11, .br false), (4, 3, .get), (5, 11, .br false), (5, 20, .br false), (7, 3, .get)], gd := [(2, 5, false), (2, 6, false), (2, 7, false), (2, 8, false), (2, 9, false), (2, 10, false), (5, 4, false), (5, 5, false), (5, 6, false), (5, 7, false), (5, 8, false), (5, 9, false), (5, 10, false), (5, 13, false), (5, 14, false), (5, 15, false), (5, 16, false), (5, 17, false), (5, 18, false), (5, 19, false)], br := [(20, false), (50, false)], ob := [(1, 2), (2, 7), (2, 8), (4, 2), (4, 3), (5, 17), (5, 18), (7, 2), (7, 3), (8, 4), (8, 5), (9, 4), (9, 5)] }),
   (90, { op := [(4, 8, .br true)], gd := [(4, 5, true), (4, 6, true), (4, 7, true)], ob := [(1, 1)] }),
   (9, { op := [(3, 9, .br false)], gd := [(3, 5, false), (3, 6, false), (3, 7, false), (3, 8, false)], br := [(20, false)], ob := [(7, 5)] }),
   (40, { br := [(6, false), (11, false), (16, false), (22, false)], ob := [(10, 1), (11, 1), (12, 1), (13, 1), (14, 2), (14, 3)] }),
   (55, { br := [(16, false)], ob := [(4, 6), (5, 6), (6, 2)] }),
   (86, { op := [(1, 7, .mrg), (1, 12, .mrg)], sp := [(1, 4), (1, 5), (1, 6), (1, 9), (1, 10), (1, 11)] }),
   (84, { op := [(1, 7, .mrg), (1, 12, .mrg)], br := [(16, true)], sp := [(1, 4), (1, 5), (1, 6), (1, 9), (1, 10), (1, 11)] }),
   (51, { ob := [(1, 2)] }),
   (33, { ob := [(1, 3), (1, 4)] }),
   (32, { br := [(10, false), (16, false), (23, false), (31, false), (39, true)] })] Try.prog 9 [AV.agg [AV.val (Value.int IntKind.i64 tos), AV.val (Value.int IntKind.i64 id), AV.val (Value.int IntKind.i64 flags), AV.val (Value.int IntKind.i64 part), AV.val (Value.int IntKind.i64 ttl), AV.val (Value.int IntKind.i64 proto), AV.val (Value.int IntKind.u8 f0), AV.val (Value.int IntKind.u8 f1), AV.val (Value.int IntKind.u8 f2), AV.val (Value.int IntKind.u8 f3), AV.val (Value.int IntKind.u8 t0), AV.val (Value.int IntKind.u8 t1), AV.val (Value.int IntKind.u8 t2), AV.val (Value.int IntKind.u8 t3), AV.bytes opts, AV.bytes body], AV.val (Value.int IntKind.i64 now)] [] 0 =
   some (AV.val (Value.bool true), [], 945,
   rp 5 (decide ((↑(List.length body) : Int) > (1500 : Int)) = false) (
   (decide ((↑(List.length opts) : Int) > (60 : Int)) = false) ::
   ((!(t0 == (203 : Int) && (t1 == (0 : Int) && (t2 == (113 : Int) && (t3 == (7 : Int) && true))))) = false) ::
   rp 4 ((part == (0 : Int)) = true → (part == (0 : Int)) = true) (
   ((!bif part == (0 : Int) then bits BinOp.and IntKind.i64 flags (1 : Int) == (0 : Int) else false) = false) ::
   ((proto == (17 : Int)) = false) ::
   ((proto == (6 : Int)) = false) ::
   ((proto == (1 : Int)) = true) ::
   ((proto != (1 : Int)) = false) ::
   rp 4 ((part == (0 : Int)) = true → (part == (0 : Int)) = true) (
   ((!bif part == (0 : Int) then bits BinOp.and IntKind.i64 flags (1 : Int) == (0 : Int) else false) = false) ::
   (decide ((↑(List.length body) : Int) < (8 : Int)) = false) ::
   (True) ::
   (List.length body ≤ 100000000) ::
   ((!ofL body == 0) = false) ::
   (True) ::
   (0 = 0 ∧ 0 + List.length body ≤ 1000000000) ::
   (1 ≤ 0 + List.length body) ::
   (0 + (0 + List.length body) ≤ List.length body) ::
   (1 ≤ 0 + List.length body - 1) ::
   (1 + (0 + List.length body - 1) ≤ List.length body) ::
   (2 ≤ 0 + List.length body - 1 - 1) ::
   (2 + (0 + List.length body - 1 - 1) ≤ List.length body) ::
   (4 ≤ 0 + List.length body - 1 - 1 - 2) ::
   (4 + (0 + List.length body - 1 - 1 - 2) ≤ List.length body) ::
   (decide ((↑(0 + List.length body - 1 - 1 - 2 - 4) : Int) > (↑(0 + List.length body - 1 - 1 - 2 - 4) : Int)) = false) ::
   ((0 : Int) ≤ (0 : Int)) ::
   rp 2 ((0 : Int) ≤ (↑(0 + List.length body - 1 - 1 - 2 - 4) : Int)) (
   (0 ≤ 0 + List.length body - 1 - 1 - 2 - 4 ∧ 0 + List.length body - 1 - 1 - 2 - 4 ≤ 0 + List.length body - 1 - 1 - 2 - 4 ∧ 8 + (0 + List.length body - 1 - 1 - 2 - 4) ≤ List.length body) ::
   rp 2 ((0 : Int) ≤ (↑(0 + List.length body - 1 - 1 - 2 - 4) : Int)) (
   (0 + List.length body - 1 - 1 - 2 - 4 ≤ 0 + List.length body - 1 - 1 - 2 - 4 ∧ 8 + (0 + List.length body - 1 - 1 - 2 - 4) ≤ List.length body) ::
   (8 + (0 + List.length body - 1 - 1 - 2 - 4) ≤ List.length body) ::
   (0 = 0 ∧ 0 + (0 + List.length body - 1 - 1 - 2 - 4) ≤ 1000000000) ::
   rp 3 (((↑(at8 body 0) : Int) != (8 : Int)) = true → ((↑(at8 body 0) : Int) != (8 : Int)) = true) (
   rp 2 ((!bif (↑(at8 body 0) : Int) != (8 : Int) then (↑(at8 body 0) : Int) != (0 : Int) else false) = true → (!bif (↑(at8 body 0) : Int) != (8 : Int) then (↑(at8 body 0) : Int) != (0 : Int) else false) = true) (
   ((bif (↑(at8 body 0) : Int) != (8 : Int) then (↑(at8 body 0) : Int) != (0 : Int) else false) = false → (!bif (↑(at8 body 0) : Int) != (8 : Int) then (↑(at8 body 0) : Int) != (0 : Int) else false) = true) ::
   ((bif bif (↑(at8 body 0) : Int) != (8 : Int) then (↑(at8 body 0) : Int) != (0 : Int) else false then true else (↑(at8 body 1) : Int) != (0 : Int)) = true) ::
   rp 2 ((!(↑(at8 body 0) : Int) == (3 : Int)) = true → (!(↑(at8 body 0) : Int) == (3 : Int)) = true) (
   (((↑(at8 body 0) : Int) == (3 : Int)) = false → (!(↑(at8 body 0) : Int) == (3 : Int)) = true) ::
   rp 2 ((!bif (↑(at8 body 0) : Int) == (3 : Int) then true else (↑(at8 body 0) : Int) == (11 : Int)) = true → (!bif (↑(at8 body 0) : Int) == (3 : Int) then true else (↑(at8 body 0) : Int) == (11 : Int)) = true) (
   ((bif (↑(at8 body 0) : Int) == (3 : Int) then true else (↑(at8 body 0) : Int) == (11 : Int)) = false → (!bif (↑(at8 body 0) : Int) == (3 : Int) then true else (↑(at8 body 0) : Int) == (11 : Int)) = true) ::
   ((!bif bif (↑(at8 body 0) : Int) == (3 : Int) then true else (↑(at8 body 0) : Int) == (11 : Int) then true else (↑(at8 body 0) : Int) == (12 : Int)) = false) ::
   (0 + (0 + (0 + List.length body - 1 - 1 - 2 - 4)) ≤ List.length (List.take (0 + List.length body - 1 - 1 - 2 - 4) (List.drop 8 body))) ::
   (0 = 0 ∧ 0 + (0 + (0 + List.length body - 1 - 1 - 2 - 4)) ≤ 1000000000) ::
   rp 3 (decide ((↑(0 + (0 + (0 + List.length body - 1 - 1 - 2 - 4))) : Int) < (24 : Int)) = false) (
   ((0 : Int) ≤ (0 : Int) ∧ (0 : Int) < (↑(0 + (0 + (0 + List.length body - 1 - 1 - 2 - 4))) : Int)) ::
   (decide ((↑(0 + (0 + (0 + List.length body - 1 - 1 - 2 - 4))) : Int) < (24 : Int)) = false) ::
   (0 < List.length (List.take (0 + (0 + List.length body - 1 - 1 - 2 - 4)) (List.take (0 + List.length body - 1 - 1 - 2 - 4) (List.drop 8 body)))) ::
   rp 3 (decide ((↑(0 + (0 + (0 + List.length body - 1 - 1 - 2 - 4))) : Int) < (24 : Int)) = false) (
   ((Int.fdiv (↑(UInt8.toNat (List.getD (List.take (0 + (0 + List.length body - 1 - 1 - 2 - 4)) (List.take (0 + List.length body - 1 - 1 - 2 - 4) (List.drop 8 body))) 0 (0 : UInt8))) : Int) (16 : Int) != (4 : Int)) = false) ::
   ((0 : Int) ≤ (0 : Int) ∧ (0 : Int) < (↑(0 + (0 + (0 + List.length body - 1 - 1 - 2 - 4))) : Int)) ::
   (0 < List.length (List.take (0 + (0 + List.length body - 1 - 1 - 2 - 4)) (List.take (0 + List.length body - 1 - 1 - 2 - 4) (List.drop 8 body)))) ::
   rp 8 (decide (IntKind.wrap IntKind.i64 (IntKind.wrap IntKind.i64 (bits BinOp.and IntKind.u8 (↑(UInt8.toNat (List.getD (List.take (0 + (0 + List.length body - 1 - 1 - 2 - 4)) (List.take (0 + List.length body - 1 - 1 - 2 - 4) (List.drop 8 body))) 0 (0 : UInt8))) : Int) (15 : Int)) * (4 : Int)) < (20 : Int)) = false) (
   rp 5 (decide (IntKind.wrap IntKind.i64 (IntKind.wrap IntKind.i64 (IntKind.wrap IntKind.i64 (bits BinOp.and IntKind.u8 (↑(UInt8.toNat (List.getD (List.take (0 + (0 + List.length body - 1 - 1 - 2 - 4)) (List.take (0 + List.length body - 1 - 1 - 2 - 4) (List.drop 8 body))) 0 (0 : UInt8))) : Int) (15 : Int)) * (4 : Int)) + (4 : Int)) > (↑(0 + (0 + (0 + List.length body - 1 - 1 - 2 - 4))) : Int)) = false) (
   ((0 : Int) ≤ (0 : Int)) ::
   ((0 : Int) ≤ IntKind.wrap IntKind.i64 (IntKind.wrap IntKind.i64 (bits BinOp.and IntKind.u8 (↑(UInt8.toNat (List.getD (List.take (0 + (0 + List.length body - 1 - 1 - 2 - 4)) (List.take (0 + List.length body - 1 - 1 - 2 - 4) (List.drop 8 body))) 0 (0 : UInt8))) : Int) (15 : Int)) * (4 : Int))) ::
   (0 ≤ Int.toNat (IntKind.wrap IntKind.i64 (IntKind.wrap IntKind.i64 (bits BinOp.and IntKind.u8 (↑(UInt8.toNat (List.getD (List.take (0 + (0 + List.length body - 1 - 1 - 2 - 4)) (List.take (0 + List.length body - 1 - 1 - 2 - 4) (List.drop 8 body))) 0 (0 : UInt8))) : Int) (15 : Int)) * (4 : Int))) ∧ 0 + Int.toNat (IntKind.wrap IntKind.i64 (IntKind.wrap IntKind.i64 (bits BinOp.and IntKind.u8 (↑(UInt8.toNat (List.getD (List.take (0 + (0 + List.length body - 1 - 1 - 2 - 4)) (List.take (0 + List.length body - 1 - 1 - 2 - 4) (List.drop 8 body))) 0 (0 : UInt8))) : Int) (15 : Int)) * (4 : Int))) ≤ List.length (List.take (0 + (0 + List.length body - 1 - 1 - 2 - 4)) (List.take (0 + List.length body - 1 - 1 - 2 - 4) (List.drop 8 body)))) ::
   (decide (IntKind.wrap IntKind.i64 (IntKind.wrap IntKind.i64 (IntKind.wrap IntKind.i64 (bits BinOp.and IntKind.u8 (↑(UInt8.toNat (List.getD (List.take (0 + (0 + List.length body - 1 - 1 - 2 - 4)) (List.take (0 + List.length body - 1 - 1 - 2 - 4) (List.drop 8 body))) 0 (0 : UInt8))) : Int) (15 : Int)) * (4 : Int)) + (4 : Int)) > (↑(0 + (0 + (0 + List.length body - 1 - 1 - 2 - 4))) : Int)) = false) ::
   (0 + Int.toNat (IntKind.wrap IntKind.i64 (IntKind.wrap IntKind.i64 (bits BinOp.and IntKind.u8 (↑(UInt8.toNat (List.getD (List.take (0 + (0 + List.length body - 1 - 1 - 2 - 4)) (List.take (0 + List.length body - 1 - 1 - 2 - 4) (List.drop 8 body))) 0 (0 : UInt8))) : Int) (15 : Int)) * (4 : Int))) ≤ List.length (List.take (0 + (0 + List.length body - 1 - 1 - 2 - 4)) (List.take (0 + List.length body - 1 - 1 - 2 - 4) (List.drop 8 body)))) ::
   (List.length (List.take (Int.toNat (IntKind.wrap IntKind.i64 (IntKind.wrap IntKind.i64 (bits BinOp.and IntKind.u8 (↑(UInt8.toNat (List.getD (List.take (0 + (0 + List.length body - 1 - 1 - 2 - 4)) (List.take (0 + List.length body - 1 - 1 - 2 - 4) (List.drop 8 body))) 0 (0 : UInt8))) : Int) (15 : Int)) * (4 : Int)))) (List.take (0 + (0 + List.length body - 1 - 1 - 2 - 4)) (List.take (0 + List.length body - 1 - 1 - 2 - 4) (List.drop 8 body)))) ≤ 100000000) ::
   rp 2 (decide (IntKind.wrap IntKind.i64 (IntKind.wrap IntKind.i64 (IntKind.wrap IntKind.i64 (bits BinOp.and IntKind.u8 (↑(UInt8.toNat (List.getD (List.take (0 + (0 + List.length body - 1 - 1 - 2 - 4)) (List.take (0 + List.length body - 1 - 1 - 2 - 4) (List.drop 8 body))) 0 (0 : UInt8))) : Int) (15 : Int)) * (4 : Int)) + (4 : Int)) > (↑(0 + (0 + (0 + List.length body - 1 - 1 - 2 - 4))) : Int)) = false) (
   ((!ofL (List.take (Int.toNat (IntKind.wrap IntKind.i64 (IntKind.wrap IntKind.i64 (bits BinOp.and IntKind.u8 (↑(UInt8.toNat (List.getD (List.take (0 + (0 + List.length body - 1 - 1 - 2 - 4)) (List.take (0 + List.length body - 1 - 1 - 2 - 4) (List.drop 8 body))) 0 (0 : UInt8))) : Int) (15 : Int)) * (4 : Int)))) (List.take (0 + (0 + List.length body - 1 - 1 - 2 - 4)) (List.take (0 + List.length body - 1 - 1 - 2 - 4) (List.drop 8 body)))) == 0) = false) ::
   ((0 : Int) ≤ (9 : Int) ∧ (9 : Int) < (↑(0 + (0 + (0 + List.length body - 1 - 1 - 2 - 4))) : Int)) ::
   (9 < List.length (List.take (0 + (0 + List.length body - 1 - 1 - 2 - 4)) (List.take (0 + List.length body - 1 - 1 - 2 - 4) (List.drop 8 body)))) ::
   ((0 : Int) ≤ (12 : Int)) ::
   ((0 : Int) ≤ (↑(0 + (0 + (0 + List.length body - 1 - 1 - 2 - 4))) : Int)) ::
   (12 ≤ 0 + (0 + (0 + List.length body - 1 - 1 - 2 - 4)) ∧ 0 + (0 + (0 + (0 + List.length body - 1 - 1 - 2 - 4))) ≤ List.length (List.take (0 + (0 + List.length body - 1 - 1 - 2 - 4)) (List.take (0 + List.length body - 1 - 1 - 2 - 4) (List.drop 8 body)))) ::
   (12 + (0 + (0 + (0 + List.length body - 1 - 1 - 2 - 4)) - 12) ≤ List.length (List.take (0 + (0 + List.length body - 1 - 1 - 2 - 4)) (List.take (0 + List.length body - 1 - 1 - 2 - 4) (List.drop 8 body)))) ::
   (0 < 4 ∧ 4 ≤ List.length (List.take (0 + (0 + (0 + List.length body - 1 - 1 - 2 - 4)) - 12) (List.drop 12 (List.take (0 + (0 + List.length body - 1 - 1 - 2 - 4)) (List.take (0 + List.length body - 1 - 1 - 2 - 4) (List.drop 8 body)))))) ::
   ((0 : Int) ≤ (16 : Int)) ::
   ((0 : Int) ≤ (↑(0 + (0 + (0 + List.length body - 1 - 1 - 2 - 4))) : Int)) ::
   (16 ≤ 0 + (0 + (0 + List.length body - 1 - 1 - 2 - 4)) ∧ 0 + (0 + (0 + (0 + List.length body - 1 - 1 - 2 - 4))) ≤ List.length (List.take (0 + (0 + List.length body - 1 - 1 - 2 - 4)) (List.take (0 + List.length body - 1 - 1 - 2 - 4) (List.drop 8 body)))) ::
   (16 + (0 + (0 + (0 + List.length body - 1 - 1 - 2 - 4)) - 16) ≤ List.length (List.take (0 + (0 + List.length body - 1 - 1 - 2 - 4)) (List.take (0 + List.length body - 1 - 1 - 2 - 4) (List.drop 8 body)))) ::
   (0 < 4 ∧ 4 ≤ List.length (List.take (0 + (0 + (0 + List.length body - 1 - 1 - 2 - 4)) - 16) (List.drop 16 (List.take (0 + (0 + List.length body - 1 - 1 - 2 - 4)) (List.take (0 + List.length body - 1 - 1 - 2 - 4) (List.drop 8 body)))))) ::
   rp 4 ((!((↑(UInt8.toNat (List.getD (List.take (0 + (0 + (0 + List.length body - 1 - 1 - 2 - 4)) - 12) (List.drop 12 (List.take (0 + (0 + List.length body - 1 - 1 - 2 - 4)) (List.take (0 + List.length body - 1 - 1 - 2 - 4) (List.drop 8 body))))) 0 (0 : UInt8))) : Int) == (203 : Int) && ((↑(UInt8.toNat (List.getD (List.take (0 + (0 + (0 + List.length body - 1 - 1 - 2 - 4)) - 12) (List.drop 12 (List.take (0 + (0 + List.length body - 1 - 1 - 2 - 4)) (List.take (0 + List.length body - 1 - 1 - 2 - 4) (List.drop 8 body))))) 1 (0 : UInt8))) : Int) == (0 : Int) && ((↑(UInt8.toNat (List.getD (List.take (0 + (0 + (0 + List.length body - 1 - 1 - 2 - 4)) - 12) (List.drop 12 (List.take (0 + (0 + List.length body - 1 - 1 - 2 - 4)) (List.take (0 + List.length body - 1 - 1 - 2 - 4) (List.drop 8 body))))) 2 (0 : UInt8))) : Int) == (113 : Int) && ((↑(UInt8.toNat (List.getD (List.take (0 + (0 + (0 + List.length body - 1 - 1 - 2 - 4)) - 12) (List.drop 12 (List.take (0 + (0 + List.length body - 1 - 1 - 2 - 4)) (List.take (0 + List.length body - 1 - 1 - 2 - 4) (List.drop 8 body))))) 3 (0 : UInt8))) : Int) == (7 : Int) && true))))) = true) ( [])))))))))))))))) := by kernel_rfl

set_option maxRecDepth 100000 in
theorem natShut_i_f_proto (tos : Int) (id : Int) (flags : Int) (part : Int) (ttl : Int) (proto : Int) (f0 : Int) (f1 : Int) (f2 : Int) (f3 : Int) (t0 : Int) (t1 : Int) (t2 : Int) (t3 : Int) (opts : List UInt8) (body : List UInt8) (now : Int) : outT kTT [(60, { br := [(70, false)], ob := [(4, 1), (12, 1), (14, 5)] }),
   (90, { op := [(4, 8, .br false)], gd := [(4, 5, false), (4, 6, false), (4, 7, false)], br := [(26, true)], ob := [(1, 1), (4, 6)] }),
   (55, { br := [(16, false)], ob := [(4, 6), (5, 6), (6, 2)] }),
   (86, { op := [(1, 7, .mrg), (1, 12, .mrg)], sp := [(1, 4), (1, 5), (1, 6), (1, 9), (1, 10), (1, 11)] }),
   (84, { op := [(1, 7, .mrg), (1, 12, .mrg)], br := [(16, true)], sp := [(1, 4), (1, 5), (1, 6), (1, 9), (1, 10), (1, 11)] }),
   (51, { ob := [(1, 2)] }),
   (47, { op := [(1, 8, .mrg)], sp := [(1, 4), (1, 5), (1, 6), (1, 7)] }),
   (108, { op := [(1, 7, .mrg), (1, 12, .mrg)], sp := [(1, 4), (1, 5), (1, 6), (1, 9), (1, 10), (1, 11)] }),
   (107, { op := [(2, 8, .get), (2, 11, .br false), (4, 3, .get), (5, 11, .br false), (5, 20, .br false), (7, 3, .get)], gd := [(2, 5, false), (2, 6, false), (2, 7, false), (2, 8, false), (2, 9, false), (2, 10, false), (5, 4, false), (5, 5, false), (5, 6, false), (5, 7, false), (5, 8, false), (5, 9, false), (5, 10, false), (5, 13, false), (5, 14, false), (5, 15, false), (5, 16, false), (5, 17, false), (5, 18, false), (5, 19, false)], br := [(20, false), (50, false)], ob := [(1, 2), (2, 7), (2, 8), (4, 2), (4, 3), (5, 17), (5, 18), (7, 2), (7, 3), (8, 4), (8, 5), (9, 4), (9, 5)] }),
   (9, { op := [(3, 9, .br false)], gd := [(3, 5, false), (3, 6, false), (3, 7, false), (3, 8, false)], br := [(20, false)], ob := [(7, 5)] }),
   (40, { br := [(6, false), (11, false), (16, false), (22, false)], ob := [(10, 1), (11, 1), (12, 1), (13, 1), (14, 2), (14, 3)] }),
   (33, { ob := [(1, 3), (1, 4)] }),
   (32, { br := [(10, false), (16, false), (23, false), (31, false), (39, true)] })] Try.prog 9 [AV.agg [AV.val (Value.int IntKind.i64 tos), AV.val (Value.int IntKind.i64 id), AV.val (Value.int IntKind.i64 flags), AV.val (Value.int IntKind.i64 part), AV.val (Value.int IntKind.i64 ttl), AV.val (Value.int IntKind.i64 proto), AV.val (Value.int IntKind.u8 f0), AV.val (Value.int IntKind.u8 f1), AV.val (Value.int IntKind.u8 f2), AV.val (Value.int IntKind.u8 f3), AV.val (Value.int IntKind.u8 t0), AV.val (Value.int IntKind.u8 t1), AV.val (Value.int IntKind.u8 t2), AV.val (Value.int IntKind.u8 t3), AV.bytes opts, AV.bytes body], AV.val (Value.int IntKind.i64 now)] [] 0 =
   some (AV.val (Value.bool true), [], 961,
   rp 5 (decide ((↑(List.length body) : Int) > (1500 : Int)) = false) (
   (decide ((↑(List.length opts) : Int) > (60 : Int)) = false) ::
   ((!(t0 == (203 : Int) && (t1 == (0 : Int) && (t2 == (113 : Int) && (t3 == (7 : Int) && true))))) = false) ::
   rp 4 ((part == (0 : Int)) = true → (part == (0 : Int)) = true) (
   ((!bif part == (0 : Int) then bits BinOp.and IntKind.i64 flags (1 : Int) == (0 : Int) else false) = false) ::
   ((proto == (17 : Int)) = false) ::
   ((proto == (6 : Int)) = false) ::
   ((proto == (1 : Int)) = true) ::
   ((proto != (1 : Int)) = false) ::
   rp 4 ((part == (0 : Int)) = true → (part == (0 : Int)) = true) (
   ((!bif part == (0 : Int) then bits BinOp.and IntKind.i64 flags (1 : Int) == (0 : Int) else false) = false) ::
   (decide ((↑(List.length body) : Int) < (8 : Int)) = false) ::
   (True) ::
   (List.length body ≤ 100000000) ::
   ((!ofL body == 0) = false) ::
   (True) ::
   (0 = 0 ∧ 0 + List.length body ≤ 1000000000) ::
   (1 ≤ 0 + List.length body) ::
   (0 + (0 + List.length body) ≤ List.length body) ::
   (1 ≤ 0 + List.length body - 1) ::
   (1 + (0 + List.length body - 1) ≤ List.length body) ::
   (2 ≤ 0 + List.length body - 1 - 1) ::
   (2 + (0 + List.length body - 1 - 1) ≤ List.length body) ::
   (4 ≤ 0 + List.length body - 1 - 1 - 2) ::
   (4 + (0 + List.length body - 1 - 1 - 2) ≤ List.length body) ::
   (decide ((↑(0 + List.length body - 1 - 1 - 2 - 4) : Int) > (↑(0 + List.length body - 1 - 1 - 2 - 4) : Int)) = false) ::
   ((0 : Int) ≤ (0 : Int)) ::
   rp 2 ((0 : Int) ≤ (↑(0 + List.length body - 1 - 1 - 2 - 4) : Int)) (
   (0 ≤ 0 + List.length body - 1 - 1 - 2 - 4 ∧ 0 + List.length body - 1 - 1 - 2 - 4 ≤ 0 + List.length body - 1 - 1 - 2 - 4 ∧ 8 + (0 + List.length body - 1 - 1 - 2 - 4) ≤ List.length body) ::
   rp 2 ((0 : Int) ≤ (↑(0 + List.length body - 1 - 1 - 2 - 4) : Int)) (
   (0 + List.length body - 1 - 1 - 2 - 4 ≤ 0 + List.length body - 1 - 1 - 2 - 4 ∧ 8 + (0 + List.length body - 1 - 1 - 2 - 4) ≤ List.length body) ::
   (8 + (0 + List.length body - 1 - 1 - 2 - 4) ≤ List.length body) ::
   (0 = 0 ∧ 0 + (0 + List.length body - 1 - 1 - 2 - 4) ≤ 1000000000) ::
   rp 3 (((↑(at8 body 0) : Int) != (8 : Int)) = true → ((↑(at8 body 0) : Int) != (8 : Int)) = true) (
   rp 2 ((!bif (↑(at8 body 0) : Int) != (8 : Int) then (↑(at8 body 0) : Int) != (0 : Int) else false) = true → (!bif (↑(at8 body 0) : Int) != (8 : Int) then (↑(at8 body 0) : Int) != (0 : Int) else false) = true) (
   ((bif (↑(at8 body 0) : Int) != (8 : Int) then (↑(at8 body 0) : Int) != (0 : Int) else false) = false → (!bif (↑(at8 body 0) : Int) != (8 : Int) then (↑(at8 body 0) : Int) != (0 : Int) else false) = true) ::
   ((bif bif (↑(at8 body 0) : Int) != (8 : Int) then (↑(at8 body 0) : Int) != (0 : Int) else false then true else (↑(at8 body 1) : Int) != (0 : Int)) = true) ::
   rp 2 ((!(↑(at8 body 0) : Int) == (3 : Int)) = true → (!(↑(at8 body 0) : Int) == (3 : Int)) = true) (
   (((↑(at8 body 0) : Int) == (3 : Int)) = false → (!(↑(at8 body 0) : Int) == (3 : Int)) = true) ::
   rp 2 ((!bif (↑(at8 body 0) : Int) == (3 : Int) then true else (↑(at8 body 0) : Int) == (11 : Int)) = true → (!bif (↑(at8 body 0) : Int) == (3 : Int) then true else (↑(at8 body 0) : Int) == (11 : Int)) = true) (
   ((bif (↑(at8 body 0) : Int) == (3 : Int) then true else (↑(at8 body 0) : Int) == (11 : Int)) = false → (!bif (↑(at8 body 0) : Int) == (3 : Int) then true else (↑(at8 body 0) : Int) == (11 : Int)) = true) ::
   ((!bif bif (↑(at8 body 0) : Int) == (3 : Int) then true else (↑(at8 body 0) : Int) == (11 : Int) then true else (↑(at8 body 0) : Int) == (12 : Int)) = false) ::
   (0 + (0 + (0 + List.length body - 1 - 1 - 2 - 4)) ≤ List.length (List.take (0 + List.length body - 1 - 1 - 2 - 4) (List.drop 8 body))) ::
   (0 = 0 ∧ 0 + (0 + (0 + List.length body - 1 - 1 - 2 - 4)) ≤ 1000000000) ::
   rp 3 (decide ((↑(0 + (0 + (0 + List.length body - 1 - 1 - 2 - 4))) : Int) < (24 : Int)) = false) (
   ((0 : Int) ≤ (0 : Int) ∧ (0 : Int) < (↑(0 + (0 + (0 + List.length body - 1 - 1 - 2 - 4))) : Int)) ::
   (decide ((↑(0 + (0 + (0 + List.length body - 1 - 1 - 2 - 4))) : Int) < (24 : Int)) = false) ::
   (0 < List.length (List.take (0 + (0 + List.length body - 1 - 1 - 2 - 4)) (List.take (0 + List.length body - 1 - 1 - 2 - 4) (List.drop 8 body)))) ::
   rp 3 (decide ((↑(0 + (0 + (0 + List.length body - 1 - 1 - 2 - 4))) : Int) < (24 : Int)) = false) (
   ((Int.fdiv (↑(UInt8.toNat (List.getD (List.take (0 + (0 + List.length body - 1 - 1 - 2 - 4)) (List.take (0 + List.length body - 1 - 1 - 2 - 4) (List.drop 8 body))) 0 (0 : UInt8))) : Int) (16 : Int) != (4 : Int)) = false) ::
   ((0 : Int) ≤ (0 : Int) ∧ (0 : Int) < (↑(0 + (0 + (0 + List.length body - 1 - 1 - 2 - 4))) : Int)) ::
   (0 < List.length (List.take (0 + (0 + List.length body - 1 - 1 - 2 - 4)) (List.take (0 + List.length body - 1 - 1 - 2 - 4) (List.drop 8 body)))) ::
   rp 8 (decide (IntKind.wrap IntKind.i64 (IntKind.wrap IntKind.i64 (bits BinOp.and IntKind.u8 (↑(UInt8.toNat (List.getD (List.take (0 + (0 + List.length body - 1 - 1 - 2 - 4)) (List.take (0 + List.length body - 1 - 1 - 2 - 4) (List.drop 8 body))) 0 (0 : UInt8))) : Int) (15 : Int)) * (4 : Int)) < (20 : Int)) = false) (
   rp 5 (decide (IntKind.wrap IntKind.i64 (IntKind.wrap IntKind.i64 (IntKind.wrap IntKind.i64 (bits BinOp.and IntKind.u8 (↑(UInt8.toNat (List.getD (List.take (0 + (0 + List.length body - 1 - 1 - 2 - 4)) (List.take (0 + List.length body - 1 - 1 - 2 - 4) (List.drop 8 body))) 0 (0 : UInt8))) : Int) (15 : Int)) * (4 : Int)) + (4 : Int)) > (↑(0 + (0 + (0 + List.length body - 1 - 1 - 2 - 4))) : Int)) = false) (
   ((0 : Int) ≤ (0 : Int)) ::
   ((0 : Int) ≤ IntKind.wrap IntKind.i64 (IntKind.wrap IntKind.i64 (bits BinOp.and IntKind.u8 (↑(UInt8.toNat (List.getD (List.take (0 + (0 + List.length body - 1 - 1 - 2 - 4)) (List.take (0 + List.length body - 1 - 1 - 2 - 4) (List.drop 8 body))) 0 (0 : UInt8))) : Int) (15 : Int)) * (4 : Int))) ::
   (0 ≤ Int.toNat (IntKind.wrap IntKind.i64 (IntKind.wrap IntKind.i64 (bits BinOp.and IntKind.u8 (↑(UInt8.toNat (List.getD (List.take (0 + (0 + List.length body - 1 - 1 - 2 - 4)) (List.take (0 + List.length body - 1 - 1 - 2 - 4) (List.drop 8 body))) 0 (0 : UInt8))) : Int) (15 : Int)) * (4 : Int))) ∧ 0 + Int.toNat (IntKind.wrap IntKind.i64 (IntKind.wrap IntKind.i64 (bits BinOp.and IntKind.u8 (↑(UInt8.toNat (List.getD (List.take (0 + (0 + List.length body - 1 - 1 - 2 - 4)) (List.take (0 + List.length body - 1 - 1 - 2 - 4) (List.drop 8 body))) 0 (0 : UInt8))) : Int) (15 : Int)) * (4 : Int))) ≤ List.length (List.take (0 + (0 + List.length body - 1 - 1 - 2 - 4)) (List.take (0 + List.length body - 1 - 1 - 2 - 4) (List.drop 8 body)))) ::
   (decide (IntKind.wrap IntKind.i64 (IntKind.wrap IntKind.i64 (IntKind.wrap IntKind.i64 (bits BinOp.and IntKind.u8 (↑(UInt8.toNat (List.getD (List.take (0 + (0 + List.length body - 1 - 1 - 2 - 4)) (List.take (0 + List.length body - 1 - 1 - 2 - 4) (List.drop 8 body))) 0 (0 : UInt8))) : Int) (15 : Int)) * (4 : Int)) + (4 : Int)) > (↑(0 + (0 + (0 + List.length body - 1 - 1 - 2 - 4))) : Int)) = false) ::
   (0 + Int.toNat (IntKind.wrap IntKind.i64 (IntKind.wrap IntKind.i64 (bits BinOp.and IntKind.u8 (↑(UInt8.toNat (List.getD (List.take (0 + (0 + List.length body - 1 - 1 - 2 - 4)) (List.take (0 + List.length body - 1 - 1 - 2 - 4) (List.drop 8 body))) 0 (0 : UInt8))) : Int) (15 : Int)) * (4 : Int))) ≤ List.length (List.take (0 + (0 + List.length body - 1 - 1 - 2 - 4)) (List.take (0 + List.length body - 1 - 1 - 2 - 4) (List.drop 8 body)))) ::
   (List.length (List.take (Int.toNat (IntKind.wrap IntKind.i64 (IntKind.wrap IntKind.i64 (bits BinOp.and IntKind.u8 (↑(UInt8.toNat (List.getD (List.take (0 + (0 + List.length body - 1 - 1 - 2 - 4)) (List.take (0 + List.length body - 1 - 1 - 2 - 4) (List.drop 8 body))) 0 (0 : UInt8))) : Int) (15 : Int)) * (4 : Int)))) (List.take (0 + (0 + List.length body - 1 - 1 - 2 - 4)) (List.take (0 + List.length body - 1 - 1 - 2 - 4) (List.drop 8 body)))) ≤ 100000000) ::
   rp 2 (decide (IntKind.wrap IntKind.i64 (IntKind.wrap IntKind.i64 (IntKind.wrap IntKind.i64 (bits BinOp.and IntKind.u8 (↑(UInt8.toNat (List.getD (List.take (0 + (0 + List.length body - 1 - 1 - 2 - 4)) (List.take (0 + List.length body - 1 - 1 - 2 - 4) (List.drop 8 body))) 0 (0 : UInt8))) : Int) (15 : Int)) * (4 : Int)) + (4 : Int)) > (↑(0 + (0 + (0 + List.length body - 1 - 1 - 2 - 4))) : Int)) = false) (
   ((!ofL (List.take (Int.toNat (IntKind.wrap IntKind.i64 (IntKind.wrap IntKind.i64 (bits BinOp.and IntKind.u8 (↑(UInt8.toNat (List.getD (List.take (0 + (0 + List.length body - 1 - 1 - 2 - 4)) (List.take (0 + List.length body - 1 - 1 - 2 - 4) (List.drop 8 body))) 0 (0 : UInt8))) : Int) (15 : Int)) * (4 : Int)))) (List.take (0 + (0 + List.length body - 1 - 1 - 2 - 4)) (List.take (0 + List.length body - 1 - 1 - 2 - 4) (List.drop 8 body)))) == 0) = false) ::
   ((0 : Int) ≤ (9 : Int) ∧ (9 : Int) < (↑(0 + (0 + (0 + List.length body - 1 - 1 - 2 - 4))) : Int)) ::
   (9 < List.length (List.take (0 + (0 + List.length body - 1 - 1 - 2 - 4)) (List.take (0 + List.length body - 1 - 1 - 2 - 4) (List.drop 8 body)))) ::
   ((0 : Int) ≤ (12 : Int)) ::
   ((0 : Int) ≤ (↑(0 + (0 + (0 + List.length body - 1 - 1 - 2 - 4))) : Int)) ::
   (12 ≤ 0 + (0 + (0 + List.length body - 1 - 1 - 2 - 4)) ∧ 0 + (0 + (0 + (0 + List.length body - 1 - 1 - 2 - 4))) ≤ List.length (List.take (0 + (0 + List.length body - 1 - 1 - 2 - 4)) (List.take (0 + List.length body - 1 - 1 - 2 - 4) (List.drop 8 body)))) ::
   (12 + (0 + (0 + (0 + List.length body - 1 - 1 - 2 - 4)) - 12) ≤ List.length (List.take (0 + (0 + List.length body - 1 - 1 - 2 - 4)) (List.take (0 + List.length body - 1 - 1 - 2 - 4) (List.drop 8 body)))) ::
   (0 < 4 ∧ 4 ≤ List.length (List.take (0 + (0 + (0 + List.length body - 1 - 1 - 2 - 4)) - 12) (List.drop 12 (List.take (0 + (0 + List.length body - 1 - 1 - 2 - 4)) (List.take (0 + List.length body - 1 - 1 - 2 - 4) (List.drop 8 body)))))) ::
   ((0 : Int) ≤ (16 : Int)) ::
   ((0 : Int) ≤ (↑(0 + (0 + (0 + List.length body - 1 - 1 - 2 - 4))) : Int)) ::
   (16 ≤ 0 + (0 + (0 + List.length body - 1 - 1 - 2 - 4)) ∧ 0 + (0 + (0 + (0 + List.length body - 1 - 1 - 2 - 4))) ≤ List.length (List.take (0 + (0 + List.length body - 1 - 1 - 2 - 4)) (List.take (0 + List.length body - 1 - 1 - 2 - 4) (List.drop 8 body)))) ::
   (16 + (0 + (0 + (0 + List.length body - 1 - 1 - 2 - 4)) - 16) ≤ List.length (List.take (0 + (0 + List.length body - 1 - 1 - 2 - 4)) (List.take (0 + List.length body - 1 - 1 - 2 - 4) (List.drop 8 body)))) ::
   (0 < 4 ∧ 4 ≤ List.length (List.take (0 + (0 + (0 + List.length body - 1 - 1 - 2 - 4)) - 16) (List.drop 16 (List.take (0 + (0 + List.length body - 1 - 1 - 2 - 4)) (List.take (0 + List.length body - 1 - 1 - 2 - 4) (List.drop 8 body)))))) ::
   rp 2 ((!((↑(UInt8.toNat (List.getD (List.take (0 + (0 + (0 + List.length body - 1 - 1 - 2 - 4)) - 12) (List.drop 12 (List.take (0 + (0 + List.length body - 1 - 1 - 2 - 4)) (List.take (0 + List.length body - 1 - 1 - 2 - 4) (List.drop 8 body))))) 0 (0 : UInt8))) : Int) == (203 : Int) && ((↑(UInt8.toNat (List.getD (List.take (0 + (0 + (0 + List.length body - 1 - 1 - 2 - 4)) - 12) (List.drop 12 (List.take (0 + (0 + List.length body - 1 - 1 - 2 - 4)) (List.take (0 + List.length body - 1 - 1 - 2 - 4) (List.drop 8 body))))) 1 (0 : UInt8))) : Int) == (0 : Int) && ((↑(UInt8.toNat (List.getD (List.take (0 + (0 + (0 + List.length body - 1 - 1 - 2 - 4)) - 12) (List.drop 12 (List.take (0 + (0 + List.length body - 1 - 1 - 2 - 4)) (List.take (0 + List.length body - 1 - 1 - 2 - 4) (List.drop 8 body))))) 2 (0 : UInt8))) : Int) == (113 : Int) && ((↑(UInt8.toNat (List.getD (List.take (0 + (0 + (0 + List.length body - 1 - 1 - 2 - 4)) - 12) (List.drop 12 (List.take (0 + (0 + List.length body - 1 - 1 - 2 - 4)) (List.take (0 + List.length body - 1 - 1 - 2 - 4) (List.drop 8 body))))) 3 (0 : UInt8))) : Int) == (7 : Int) && true))))) = false) (
   rp 2 ((!IntKind.wrap IntKind.i64 (↑(UInt8.toNat (List.getD (List.take (0 + (0 + List.length body - 1 - 1 - 2 - 4)) (List.take (0 + List.length body - 1 - 1 - 2 - 4) (List.drop 8 body))) 9 (0 : UInt8))) : Int) == (17 : Int)) = true → (!IntKind.wrap IntKind.i64 (↑(UInt8.toNat (List.getD (List.take (0 + (0 + List.length body - 1 - 1 - 2 - 4)) (List.take (0 + List.length body - 1 - 1 - 2 - 4) (List.drop 8 body))) 9 (0 : UInt8))) : Int) == (17 : Int)) = true) (
   ((IntKind.wrap IntKind.i64 (↑(UInt8.toNat (List.getD (List.take (0 + (0 + List.length body - 1 - 1 - 2 - 4)) (List.take (0 + List.length body - 1 - 1 - 2 - 4) (List.drop 8 body))) 9 (0 : UInt8))) : Int) == (17 : Int)) = false → (!IntKind.wrap IntKind.i64 (↑(UInt8.toNat (List.getD (List.take (0 + (0 + List.length body - 1 - 1 - 2 - 4)) (List.take (0 + List.length body - 1 - 1 - 2 - 4) (List.drop 8 body))) 9 (0 : UInt8))) : Int) == (17 : Int)) = true) ::
   rp 2 ((!bif IntKind.wrap IntKind.i64 (↑(UInt8.toNat (List.getD (List.take (0 + (0 + List.length body - 1 - 1 - 2 - 4)) (List.take (0 + List.length body - 1 - 1 - 2 - 4) (List.drop 8 body))) 9 (0 : UInt8))) : Int) == (17 : Int) then true else IntKind.wrap IntKind.i64 (↑(UInt8.toNat (List.getD (List.take (0 + (0 + List.length body - 1 - 1 - 2 - 4)) (List.take (0 + List.length body - 1 - 1 - 2 - 4) (List.drop 8 body))) 9 (0 : UInt8))) : Int) == (6 : Int)) = true → (!bif IntKind.wrap IntKind.i64 (↑(UInt8.toNat (List.getD (List.take (0 + (0 + List.length body - 1 - 1 - 2 - 4)) (List.take (0 + List.length body - 1 - 1 - 2 - 4) (List.drop 8 body))) 9 (0 : UInt8))) : Int) == (17 : Int) then true else IntKind.wrap IntKind.i64 (↑(UInt8.toNat (List.getD (List.take (0 + (0 + List.length body - 1 - 1 - 2 - 4)) (List.take (0 + List.length body - 1 - 1 - 2 - 4) (List.drop 8 body))) 9 (0 : UInt8))) : Int) == (6 : Int)) = true) (
   ((bif IntKind.wrap IntKind.i64 (↑(UInt8.toNat (List.getD (List.take (0 + (0 + List.length body - 1 - 1 - 2 - 4)) (List.take (0 + List.length body - 1 - 1 - 2 - 4) (List.drop 8 body))) 9 (0 : UInt8))) : Int) == (17 : Int) then true else IntKind.wrap IntKind.i64 (↑(UInt8.toNat (List.getD (List.take (0 + (0 + List.length body - 1 - 1 - 2 - 4)) (List.take (0 + List.length body - 1 - 1 - 2 - 4) (List.drop 8 body))) 9 (0 : UInt8))) : Int) == (6 : Int)) = false → (!bif IntKind.wrap IntKind.i64 (↑(UInt8.toNat (List.getD (List.take (0 + (0 + List.length body - 1 - 1 - 2 - 4)) (List.take (0 + List.length body - 1 - 1 - 2 - 4) (List.drop 8 body))) 9 (0 : UInt8))) : Int) == (17 : Int) then true else IntKind.wrap IntKind.i64 (↑(UInt8.toNat (List.getD (List.take (0 + (0 + List.length body - 1 - 1 - 2 - 4)) (List.take (0 + List.length body - 1 - 1 - 2 - 4) (List.drop 8 body))) 9 (0 : UInt8))) : Int) == (6 : Int)) = true) ::
   rp 2 ((!((↑(UInt8.toNat (List.getD (List.take (0 + (0 + (0 + List.length body - 1 - 1 - 2 - 4)) - 12) (List.drop 12 (List.take (0 + (0 + List.length body - 1 - 1 - 2 - 4)) (List.take (0 + List.length body - 1 - 1 - 2 - 4) (List.drop 8 body))))) 0 (0 : UInt8))) : Int) == (203 : Int) && ((↑(UInt8.toNat (List.getD (List.take (0 + (0 + (0 + List.length body - 1 - 1 - 2 - 4)) - 12) (List.drop 12 (List.take (0 + (0 + List.length body - 1 - 1 - 2 - 4)) (List.take (0 + List.length body - 1 - 1 - 2 - 4) (List.drop 8 body))))) 1 (0 : UInt8))) : Int) == (0 : Int) && ((↑(UInt8.toNat (List.getD (List.take (0 + (0 + (0 + List.length body - 1 - 1 - 2 - 4)) - 12) (List.drop 12 (List.take (0 + (0 + List.length body - 1 - 1 - 2 - 4)) (List.take (0 + List.length body - 1 - 1 - 2 - 4) (List.drop 8 body))))) 2 (0 : UInt8))) : Int) == (113 : Int) && ((↑(UInt8.toNat (List.getD (List.take (0 + (0 + (0 + List.length body - 1 - 1 - 2 - 4)) - 12) (List.drop 12 (List.take (0 + (0 + List.length body - 1 - 1 - 2 - 4)) (List.take (0 + List.length body - 1 - 1 - 2 - 4) (List.drop 8 body))))) 3 (0 : UInt8))) : Int) == (7 : Int) && true))))) = false) (
   ((!bif bif IntKind.wrap IntKind.i64 (↑(UInt8.toNat (List.getD (List.take (0 + (0 + List.length body - 1 - 1 - 2 - 4)) (List.take (0 + List.length body - 1 - 1 - 2 - 4) (List.drop 8 body))) 9 (0 : UInt8))) : Int) == (17 : Int) then true else IntKind.wrap IntKind.i64 (↑(UInt8.toNat (List.getD (List.take (0 + (0 + List.length body - 1 - 1 - 2 - 4)) (List.take (0 + List.length body - 1 - 1 - 2 - 4) (List.drop 8 body))) 9 (0 : UInt8))) : Int) == (6 : Int) then true else IntKind.wrap IntKind.i64 (↑(UInt8.toNat (List.getD (List.take (0 + (0 + List.length body - 1 - 1 - 2 - 4)) (List.take (0 + List.length body - 1 - 1 - 2 - 4) (List.drop 8 body))) 9 (0 : UInt8))) : Int) == (1 : Int)) = true) :: []))))))))))))))))))) := by kernel_rfl

set_option maxRecDepth 100000 in
theorem natShut_i_f_place (tos : Int) (id : Int) (flags : Int) (part : Int) (ttl : Int) (proto : Int) (f0 : Int) (f1 : Int) (f2 : Int) (f3 : Int) (t0 : Int) (t1 : Int) (t2 : Int) (t3 : Int) (opts : List UInt8) (body : List UInt8) (now : Int) : outT kTT [(60, { br := [(70, false)], ob := [(4, 1), (12, 1), (14, 5)] }),
   (90, { op := [(4, 8, .br false)], gd := [(4, 5, false), (4, 6, false), (4, 7, false)], br := [(26, false), (43, true)], ob := [(1, 1), (4, 6), (6, 1)] }),
   (55, { br := [(16, false)], ob := [(4, 6), (5, 6), (6, 2)] }),
   (86, { op := [(1, 7, .mrg), (1, 12, .mrg)], sp := [(1, 4), (1, 5), (1, 6), (1, 9), (1, 10), (1, 11)] }),
   (84, { op := [(1, 7, .mrg), (1, 12, .mrg)], br := [(16, true)], sp := [(1, 4), (1, 5), (1, 6), (1, 9), (1, 10), (1, 11)] }),
   (51, { ob := [(1, 2)] }),
   (47, { op := [(1, 8, .mrg)], sp := [(1, 4), (1, 5), (1, 6), (1, 7)] }),
   (109, { br := [(9, true)] }),
   (108, { op := [(1, 7, .mrg), (1, 12, .mrg)], sp := [(1, 4), (1, 5), (1, 6), (1, 9), (1, 10), (1, 11)] }),
   (107, { op := [(2, 8, .get), (2, 11, .br false), (4, 3, .get), (5, 11, .br false), (5, 20, .br false), (7, 3, .get)], gd := [(2, 5, false), (2, 6, false), (2, 7, false), (2, 8, false), (2, 9, false), (2, 10, false), (5, 4, false), (5, 5, false), (5, 6, false), (5, 7, false), (5, 8, false), (5, 9, false), (5, 10, false), (5, 13, false), (5, 14, false), (5, 15, false), (5, 16, false), (5, 17, false), (5, 18, false), (5, 19, false)], br := [(20, false), (50, false)], ob := [(1, 2), (2, 7), (2, 8), (4, 2), (4, 3), (5, 17), (5, 18), (7, 2), (7, 3), (8, 4), (8, 5), (9, 4), (9, 5)] }),
   (9, { op := [(3, 9, .br false)], gd := [(3, 5, false), (3, 6, false), (3, 7, false), (3, 8, false)], br := [(20, false)], ob := [(7, 5)] }),
   (40, { br := [(6, false), (11, false), (16, false), (22, false)], ob := [(10, 1), (11, 1), (12, 1), (13, 1), (14, 2), (14, 3)] }),
   (33, { ob := [(1, 3), (1, 4)] }),
   (32, { br := [(10, false), (16, false), (23, false), (31, false), (39, true)] })] Try.prog 9 [AV.agg [AV.val (Value.int IntKind.i64 tos), AV.val (Value.int IntKind.i64 id), AV.val (Value.int IntKind.i64 flags), AV.val (Value.int IntKind.i64 part), AV.val (Value.int IntKind.i64 ttl), AV.val (Value.int IntKind.i64 proto), AV.val (Value.int IntKind.u8 f0), AV.val (Value.int IntKind.u8 f1), AV.val (Value.int IntKind.u8 f2), AV.val (Value.int IntKind.u8 f3), AV.val (Value.int IntKind.u8 t0), AV.val (Value.int IntKind.u8 t1), AV.val (Value.int IntKind.u8 t2), AV.val (Value.int IntKind.u8 t3), AV.bytes opts, AV.bytes body], AV.val (Value.int IntKind.i64 now)] [] 0 =
   some (AV.val (Value.bool true), [], 992,
   rp 5 (decide ((↑(List.length body) : Int) > (1500 : Int)) = false) (
   (decide ((↑(List.length opts) : Int) > (60 : Int)) = false) ::
   ((!(t0 == (203 : Int) && (t1 == (0 : Int) && (t2 == (113 : Int) && (t3 == (7 : Int) && true))))) = false) ::
   rp 4 ((part == (0 : Int)) = true → (part == (0 : Int)) = true) (
   ((!bif part == (0 : Int) then bits BinOp.and IntKind.i64 flags (1 : Int) == (0 : Int) else false) = false) ::
   ((proto == (17 : Int)) = false) ::
   ((proto == (6 : Int)) = false) ::
   ((proto == (1 : Int)) = true) ::
   ((proto != (1 : Int)) = false) ::
   rp 4 ((part == (0 : Int)) = true → (part == (0 : Int)) = true) (
   ((!bif part == (0 : Int) then bits BinOp.and IntKind.i64 flags (1 : Int) == (0 : Int) else false) = false) ::
   (decide ((↑(List.length body) : Int) < (8 : Int)) = false) ::
   (True) ::
   (List.length body ≤ 100000000) ::
   ((!ofL body == 0) = false) ::
   (True) ::
   (0 = 0 ∧ 0 + List.length body ≤ 1000000000) ::
   (1 ≤ 0 + List.length body) ::
   (0 + (0 + List.length body) ≤ List.length body) ::
   (1 ≤ 0 + List.length body - 1) ::
   (1 + (0 + List.length body - 1) ≤ List.length body) ::
   (2 ≤ 0 + List.length body - 1 - 1) ::
   (2 + (0 + List.length body - 1 - 1) ≤ List.length body) ::
   (4 ≤ 0 + List.length body - 1 - 1 - 2) ::
   (4 + (0 + List.length body - 1 - 1 - 2) ≤ List.length body) ::
   (decide ((↑(0 + List.length body - 1 - 1 - 2 - 4) : Int) > (↑(0 + List.length body - 1 - 1 - 2 - 4) : Int)) = false) ::
   ((0 : Int) ≤ (0 : Int)) ::
   rp 2 ((0 : Int) ≤ (↑(0 + List.length body - 1 - 1 - 2 - 4) : Int)) (
   (0 ≤ 0 + List.length body - 1 - 1 - 2 - 4 ∧ 0 + List.length body - 1 - 1 - 2 - 4 ≤ 0 + List.length body - 1 - 1 - 2 - 4 ∧ 8 + (0 + List.length body - 1 - 1 - 2 - 4) ≤ List.length body) ::
   rp 2 ((0 : Int) ≤ (↑(0 + List.length body - 1 - 1 - 2 - 4) : Int)) (
   (0 + List.length body - 1 - 1 - 2 - 4 ≤ 0 + List.length body - 1 - 1 - 2 - 4 ∧ 8 + (0 + List.length body - 1 - 1 - 2 - 4) ≤ List.length body) ::
   (8 + (0 + List.length body - 1 - 1 - 2 - 4) ≤ List.length body) ::
   (0 = 0 ∧ 0 + (0 + List.length body - 1 - 1 - 2 - 4) ≤ 1000000000) ::
   rp 3 (((↑(at8 body 0) : Int) != (8 : Int)) = true → ((↑(at8 body 0) : Int) != (8 : Int)) = true) (
   rp 2 ((!bif (↑(at8 body 0) : Int) != (8 : Int) then (↑(at8 body 0) : Int) != (0 : Int) else false) = true → (!bif (↑(at8 body 0) : Int) != (8 : Int) then (↑(at8 body 0) : Int) != (0 : Int) else false) = true) (
   ((bif (↑(at8 body 0) : Int) != (8 : Int) then (↑(at8 body 0) : Int) != (0 : Int) else false) = false → (!bif (↑(at8 body 0) : Int) != (8 : Int) then (↑(at8 body 0) : Int) != (0 : Int) else false) = true) ::
   ((bif bif (↑(at8 body 0) : Int) != (8 : Int) then (↑(at8 body 0) : Int) != (0 : Int) else false then true else (↑(at8 body 1) : Int) != (0 : Int)) = true) ::
   rp 2 ((!(↑(at8 body 0) : Int) == (3 : Int)) = true → (!(↑(at8 body 0) : Int) == (3 : Int)) = true) (
   (((↑(at8 body 0) : Int) == (3 : Int)) = false → (!(↑(at8 body 0) : Int) == (3 : Int)) = true) ::
   rp 2 ((!bif (↑(at8 body 0) : Int) == (3 : Int) then true else (↑(at8 body 0) : Int) == (11 : Int)) = true → (!bif (↑(at8 body 0) : Int) == (3 : Int) then true else (↑(at8 body 0) : Int) == (11 : Int)) = true) (
   ((bif (↑(at8 body 0) : Int) == (3 : Int) then true else (↑(at8 body 0) : Int) == (11 : Int)) = false → (!bif (↑(at8 body 0) : Int) == (3 : Int) then true else (↑(at8 body 0) : Int) == (11 : Int)) = true) ::
   ((!bif bif (↑(at8 body 0) : Int) == (3 : Int) then true else (↑(at8 body 0) : Int) == (11 : Int) then true else (↑(at8 body 0) : Int) == (12 : Int)) = false) ::
   (0 + (0 + (0 + List.length body - 1 - 1 - 2 - 4)) ≤ List.length (List.take (0 + List.length body - 1 - 1 - 2 - 4) (List.drop 8 body))) ::
   (0 = 0 ∧ 0 + (0 + (0 + List.length body - 1 - 1 - 2 - 4)) ≤ 1000000000) ::
   rp 3 (decide ((↑(0 + (0 + (0 + List.length body - 1 - 1 - 2 - 4))) : Int) < (24 : Int)) = false) (
   ((0 : Int) ≤ (0 : Int) ∧ (0 : Int) < (↑(0 + (0 + (0 + List.length body - 1 - 1 - 2 - 4))) : Int)) ::
   (decide ((↑(0 + (0 + (0 + List.length body - 1 - 1 - 2 - 4))) : Int) < (24 : Int)) = false) ::
   (0 < List.length (List.take (0 + (0 + List.length body - 1 - 1 - 2 - 4)) (List.take (0 + List.length body - 1 - 1 - 2 - 4) (List.drop 8 body)))) ::
   rp 3 (decide ((↑(0 + (0 + (0 + List.length body - 1 - 1 - 2 - 4))) : Int) < (24 : Int)) = false) (
   ((Int.fdiv (↑(UInt8.toNat (List.getD (List.take (0 + (0 + List.length body - 1 - 1 - 2 - 4)) (List.take (0 + List.length body - 1 - 1 - 2 - 4) (List.drop 8 body))) 0 (0 : UInt8))) : Int) (16 : Int) != (4 : Int)) = false) ::
   ((0 : Int) ≤ (0 : Int) ∧ (0 : Int) < (↑(0 + (0 + (0 + List.length body - 1 - 1 - 2 - 4))) : Int)) ::
   (0 < List.length (List.take (0 + (0 + List.length body - 1 - 1 - 2 - 4)) (List.take (0 + List.length body - 1 - 1 - 2 - 4) (List.drop 8 body)))) ::
   rp 8 (decide (IntKind.wrap IntKind.i64 (IntKind.wrap IntKind.i64 (bits BinOp.and IntKind.u8 (↑(UInt8.toNat (List.getD (List.take (0 + (0 + List.length body - 1 - 1 - 2 - 4)) (List.take (0 + List.length body - 1 - 1 - 2 - 4) (List.drop 8 body))) 0 (0 : UInt8))) : Int) (15 : Int)) * (4 : Int)) < (20 : Int)) = false) (
   rp 5 (decide (IntKind.wrap IntKind.i64 (IntKind.wrap IntKind.i64 (IntKind.wrap IntKind.i64 (bits BinOp.and IntKind.u8 (↑(UInt8.toNat (List.getD (List.take (0 + (0 + List.length body - 1 - 1 - 2 - 4)) (List.take (0 + List.length body - 1 - 1 - 2 - 4) (List.drop 8 body))) 0 (0 : UInt8))) : Int) (15 : Int)) * (4 : Int)) + (4 : Int)) > (↑(0 + (0 + (0 + List.length body - 1 - 1 - 2 - 4))) : Int)) = false) (
   ((0 : Int) ≤ (0 : Int)) ::
   ((0 : Int) ≤ IntKind.wrap IntKind.i64 (IntKind.wrap IntKind.i64 (bits BinOp.and IntKind.u8 (↑(UInt8.toNat (List.getD (List.take (0 + (0 + List.length body - 1 - 1 - 2 - 4)) (List.take (0 + List.length body - 1 - 1 - 2 - 4) (List.drop 8 body))) 0 (0 : UInt8))) : Int) (15 : Int)) * (4 : Int))) ::
   (0 ≤ Int.toNat (IntKind.wrap IntKind.i64 (IntKind.wrap IntKind.i64 (bits BinOp.and IntKind.u8 (↑(UInt8.toNat (List.getD (List.take (0 + (0 + List.length body - 1 - 1 - 2 - 4)) (List.take (0 + List.length body - 1 - 1 - 2 - 4) (List.drop 8 body))) 0 (0 : UInt8))) : Int) (15 : Int)) * (4 : Int))) ∧ 0 + Int.toNat (IntKind.wrap IntKind.i64 (IntKind.wrap IntKind.i64 (bits BinOp.and IntKind.u8 (↑(UInt8.toNat (List.getD (List.take (0 + (0 + List.length body - 1 - 1 - 2 - 4)) (List.take (0 + List.length body - 1 - 1 - 2 - 4) (List.drop 8 body))) 0 (0 : UInt8))) : Int) (15 : Int)) * (4 : Int))) ≤ List.length (List.take (0 + (0 + List.length body - 1 - 1 - 2 - 4)) (List.take (0 + List.length body - 1 - 1 - 2 - 4) (List.drop 8 body)))) ::
   (decide (IntKind.wrap IntKind.i64 (IntKind.wrap IntKind.i64 (IntKind.wrap IntKind.i64 (bits BinOp.and IntKind.u8 (↑(UInt8.toNat (List.getD (List.take (0 + (0 + List.length body - 1 - 1 - 2 - 4)) (List.take (0 + List.length body - 1 - 1 - 2 - 4) (List.drop 8 body))) 0 (0 : UInt8))) : Int) (15 : Int)) * (4 : Int)) + (4 : Int)) > (↑(0 + (0 + (0 + List.length body - 1 - 1 - 2 - 4))) : Int)) = false) ::
   (0 + Int.toNat (IntKind.wrap IntKind.i64 (IntKind.wrap IntKind.i64 (bits BinOp.and IntKind.u8 (↑(UInt8.toNat (List.getD (List.take (0 + (0 + List.length body - 1 - 1 - 2 - 4)) (List.take (0 + List.length body - 1 - 1 - 2 - 4) (List.drop 8 body))) 0 (0 : UInt8))) : Int) (15 : Int)) * (4 : Int))) ≤ List.length (List.take (0 + (0 + List.length body - 1 - 1 - 2 - 4)) (List.take (0 + List.length body - 1 - 1 - 2 - 4) (List.drop 8 body)))) ::
   (List.length (List.take (Int.toNat (IntKind.wrap IntKind.i64 (IntKind.wrap IntKind.i64 (bits BinOp.and IntKind.u8 (↑(UInt8.toNat (List.getD (List.take (0 + (0 + List.length body - 1 - 1 - 2 - 4)) (List.take (0 + List.length body - 1 - 1 - 2 - 4) (List.drop 8 body))) 0 (0 : UInt8))) : Int) (15 : Int)) * (4 : Int)))) (List.take (0 + (0 + List.length body - 1 - 1 - 2 - 4)) (List.take (0 + List.length body - 1 - 1 - 2 - 4) (List.drop 8 body)))) ≤ 100000000) ::
   rp 2 (decide (IntKind.wrap IntKind.i64 (IntKind.wrap IntKind.i64 (IntKind.wrap IntKind.i64 (bits BinOp.and IntKind.u8 (↑(UInt8.toNat (List.getD (List.take (0 + (0 + List.length body - 1 - 1 - 2 - 4)) (List.take (0 + List.length body - 1 - 1 - 2 - 4) (List.drop 8 body))) 0 (0 : UInt8))) : Int) (15 : Int)) * (4 : Int)) + (4 : Int)) > (↑(0 + (0 + (0 + List.length body - 1 - 1 - 2 - 4))) : Int)) = false) (
   ((!ofL (List.take (Int.toNat (IntKind.wrap IntKind.i64 (IntKind.wrap IntKind.i64 (bits BinOp.and IntKind.u8 (↑(UInt8.toNat (List.getD (List.take (0 + (0 + List.length body - 1 - 1 - 2 - 4)) (List.take (0 + List.length body - 1 - 1 - 2 - 4) (List.drop 8 body))) 0 (0 : UInt8))) : Int) (15 : Int)) * (4 : Int)))) (List.take (0 + (0 + List.length body - 1 - 1 - 2 - 4)) (List.take (0 + List.length body - 1 - 1 - 2 - 4) (List.drop 8 body)))) == 0) = false) ::
   ((0 : Int) ≤ (9 : Int) ∧ (9 : Int) < (↑(0 + (0 + (0 + List.length body - 1 - 1 - 2 - 4))) : Int)) ::
   (9 < List.length (List.take (0 + (0 + List.length body - 1 - 1 - 2 - 4)) (List.take (0 + List.length body - 1 - 1 - 2 - 4) (List.drop 8 body)))) ::
   ((0 : Int) ≤ (12 : Int)) ::
   ((0 : Int) ≤ (↑(0 + (0 + (0 + List.length body - 1 - 1 - 2 - 4))) : Int)) ::
   (12 ≤ 0 + (0 + (0 + List.length body - 1 - 1 - 2 - 4)) ∧ 0 + (0 + (0 + (0 + List.length body - 1 - 1 - 2 - 4))) ≤ List.length (List.take (0 + (0 + List.length body - 1 - 1 - 2 - 4)) (List.take (0 + List.length body - 1 - 1 - 2 - 4) (List.drop 8 body)))) ::
   (12 + (0 + (0 + (0 + List.length body - 1 - 1 - 2 - 4)) - 12) ≤ List.length (List.take (0 + (0 + List.length body - 1 - 1 - 2 - 4)) (List.take (0 + List.length body - 1 - 1 - 2 - 4) (List.drop 8 body)))) ::
   (0 < 4 ∧ 4 ≤ List.length (List.take (0 + (0 + (0 + List.length body - 1 - 1 - 2 - 4)) - 12) (List.drop 12 (List.take (0 + (0 + List.length body - 1 - 1 - 2 - 4)) (List.take (0 + List.length body - 1 - 1 - 2 - 4) (List.drop 8 body)))))) ::
   ((0 : Int) ≤ (16 : Int)) ::
   ((0 : Int) ≤ (↑(0 + (0 + (0 + List.length body - 1 - 1 - 2 - 4))) : Int)) ::
   (16 ≤ 0 + (0 + (0 + List.length body - 1 - 1 - 2 - 4)) ∧ 0 + (0 + (0 + (0 + List.length body - 1 - 1 - 2 - 4))) ≤ List.length (List.take (0 + (0 + List.length body - 1 - 1 - 2 - 4)) (List.take (0 + List.length body - 1 - 1 - 2 - 4) (List.drop 8 body)))) ::
   (16 + (0 + (0 + (0 + List.length body - 1 - 1 - 2 - 4)) - 16) ≤ List.length (List.take (0 + (0 + List.length body - 1 - 1 - 2 - 4)) (List.take (0 + List.length body - 1 - 1 - 2 - 4) (List.drop 8 body)))) ::
   (0 < 4 ∧ 4 ≤ List.length (List.take (0 + (0 + (0 + List.length body - 1 - 1 - 2 - 4)) - 16) (List.drop 16 (List.take (0 + (0 + List.length body - 1 - 1 - 2 - 4)) (List.take (0 + List.length body - 1 - 1 - 2 - 4) (List.drop 8 body)))))) ::
   rp 2 ((!((↑(UInt8.toNat (List.getD (List.take (0 + (0 + (0 + List.length body - 1 - 1 - 2 - 4)) - 12) (List.drop 12 (List.take (0 + (0 + List.length body - 1 - 1 - 2 - 4)) (List.take (0 + List.length body - 1 - 1 - 2 - 4) (List.drop 8 body))))) 0 (0 : UInt8))) : Int) == (203 : Int) && ((↑(UInt8.toNat (List.getD (List.take (0 + (0 + (0 + List.length body - 1 - 1 - 2 - 4)) - 12) (List.drop 12 (List.take (0 + (0 + List.length body - 1 - 1 - 2 - 4)) (List.take (0 + List.length body - 1 - 1 - 2 - 4) (List.drop 8 body))))) 1 (0 : UInt8))) : Int) == (0 : Int) && ((↑(UInt8.toNat (List.getD (List.take (0 + (0 + (0 + List.length body - 1 - 1 - 2 - 4)) - 12) (List.drop 12 (List.take (0 + (0 + List.length body - 1 - 1 - 2 - 4)) (List.take (0 + List.length body - 1 - 1 - 2 - 4) (List.drop 8 body))))) 2 (0 : UInt8))) : Int) == (113 : Int) && ((↑(UInt8.toNat (List.getD (List.take (0 + (0 + (0 + List.length body - 1 - 1 - 2 - 4)) - 12) (List.drop 12 (List.take (0 + (0 + List.length body - 1 - 1 - 2 - 4)) (List.take (0 + List.length body - 1 - 1 - 2 - 4) (List.drop 8 body))))) 3 (0 : UInt8))) : Int) == (7 : Int) && true))))) = false) (
   rp 2 ((!IntKind.wrap IntKind.i64 (↑(UInt8.toNat (List.getD (List.take (0 + (0 + List.length body - 1 - 1 - 2 - 4)) (List.take (0 + List.length body - 1 - 1 - 2 - 4) (List.drop 8 body))) 9 (0 : UInt8))) : Int) == (17 : Int)) = true → (!IntKind.wrap IntKind.i64 (↑(UInt8.toNat (List.getD (List.take (0 + (0 + List.length body - 1 - 1 - 2 - 4)) (List.take (0 + List.length body - 1 - 1 - 2 - 4) (List.drop 8 body))) 9 (0 : UInt8))) : Int) == (17 : Int)) = true) (
   ((IntKind.wrap IntKind.i64 (↑(UInt8.toNat (List.getD (List.take (0 + (0 + List.length body - 1 - 1 - 2 - 4)) (List.take (0 + List.length body - 1 - 1 - 2 - 4) (List.drop 8 body))) 9 (0 : UInt8))) : Int) == (17 : Int)) = false → (!IntKind.wrap IntKind.i64 (↑(UInt8.toNat (List.getD (List.take (0 + (0 + List.length body - 1 - 1 - 2 - 4)) (List.take (0 + List.length body - 1 - 1 - 2 - 4) (List.drop 8 body))) 9 (0 : UInt8))) : Int) == (17 : Int)) = true) ::
   rp 2 ((!bif IntKind.wrap IntKind.i64 (↑(UInt8.toNat (List.getD (List.take (0 + (0 + List.length body - 1 - 1 - 2 - 4)) (List.take (0 + List.length body - 1 - 1 - 2 - 4) (List.drop 8 body))) 9 (0 : UInt8))) : Int) == (17 : Int) then true else IntKind.wrap IntKind.i64 (↑(UInt8.toNat (List.getD (List.take (0 + (0 + List.length body - 1 - 1 - 2 - 4)) (List.take (0 + List.length body - 1 - 1 - 2 - 4) (List.drop 8 body))) 9 (0 : UInt8))) : Int) == (6 : Int)) = true → (!bif IntKind.wrap IntKind.i64 (↑(UInt8.toNat (List.getD (List.take (0 + (0 + List.length body - 1 - 1 - 2 - 4)) (List.take (0 + List.length body - 1 - 1 - 2 - 4) (List.drop 8 body))) 9 (0 : UInt8))) : Int) == (17 : Int) then true else IntKind.wrap IntKind.i64 (↑(UInt8.toNat (List.getD (List.take (0 + (0 + List.length body - 1 - 1 - 2 - 4)) (List.take (0 + List.length body - 1 - 1 - 2 - 4) (List.drop 8 body))) 9 (0 : UInt8))) : Int) == (6 : Int)) = true) (
   ((bif IntKind.wrap IntKind.i64 (↑(UInt8.toNat (List.getD (List.take (0 + (0 + List.length body - 1 - 1 - 2 - 4)) (List.take (0 + List.length body - 1 - 1 - 2 - 4) (List.drop 8 body))) 9 (0 : UInt8))) : Int) == (17 : Int) then true else IntKind.wrap IntKind.i64 (↑(UInt8.toNat (List.getD (List.take (0 + (0 + List.length body - 1 - 1 - 2 - 4)) (List.take (0 + List.length body - 1 - 1 - 2 - 4) (List.drop 8 body))) 9 (0 : UInt8))) : Int) == (6 : Int)) = false → (!bif IntKind.wrap IntKind.i64 (↑(UInt8.toNat (List.getD (List.take (0 + (0 + List.length body - 1 - 1 - 2 - 4)) (List.take (0 + List.length body - 1 - 1 - 2 - 4) (List.drop 8 body))) 9 (0 : UInt8))) : Int) == (17 : Int) then true else IntKind.wrap IntKind.i64 (↑(UInt8.toNat (List.getD (List.take (0 + (0 + List.length body - 1 - 1 - 2 - 4)) (List.take (0 + List.length body - 1 - 1 - 2 - 4) (List.drop 8 body))) 9 (0 : UInt8))) : Int) == (6 : Int)) = true) ::
   rp 2 ((!((↑(UInt8.toNat (List.getD (List.take (0 + (0 + (0 + List.length body - 1 - 1 - 2 - 4)) - 12) (List.drop 12 (List.take (0 + (0 + List.length body - 1 - 1 - 2 - 4)) (List.take (0 + List.length body - 1 - 1 - 2 - 4) (List.drop 8 body))))) 0 (0 : UInt8))) : Int) == (203 : Int) && ((↑(UInt8.toNat (List.getD (List.take (0 + (0 + (0 + List.length body - 1 - 1 - 2 - 4)) - 12) (List.drop 12 (List.take (0 + (0 + List.length body - 1 - 1 - 2 - 4)) (List.take (0 + List.length body - 1 - 1 - 2 - 4) (List.drop 8 body))))) 1 (0 : UInt8))) : Int) == (0 : Int) && ((↑(UInt8.toNat (List.getD (List.take (0 + (0 + (0 + List.length body - 1 - 1 - 2 - 4)) - 12) (List.drop 12 (List.take (0 + (0 + List.length body - 1 - 1 - 2 - 4)) (List.take (0 + List.length body - 1 - 1 - 2 - 4) (List.drop 8 body))))) 2 (0 : UInt8))) : Int) == (113 : Int) && ((↑(UInt8.toNat (List.getD (List.take (0 + (0 + (0 + List.length body - 1 - 1 - 2 - 4)) - 12) (List.drop 12 (List.take (0 + (0 + List.length body - 1 - 1 - 2 - 4)) (List.take (0 + List.length body - 1 - 1 - 2 - 4) (List.drop 8 body))))) 3 (0 : UInt8))) : Int) == (7 : Int) && true))))) = false) (
   ((!bif bif IntKind.wrap IntKind.i64 (↑(UInt8.toNat (List.getD (List.take (0 + (0 + List.length body - 1 - 1 - 2 - 4)) (List.take (0 + List.length body - 1 - 1 - 2 - 4) (List.drop 8 body))) 9 (0 : UInt8))) : Int) == (17 : Int) then true else IntKind.wrap IntKind.i64 (↑(UInt8.toNat (List.getD (List.take (0 + (0 + List.length body - 1 - 1 - 2 - 4)) (List.take (0 + List.length body - 1 - 1 - 2 - 4) (List.drop 8 body))) 9 (0 : UInt8))) : Int) == (6 : Int) then true else IntKind.wrap IntKind.i64 (↑(UInt8.toNat (List.getD (List.take (0 + (0 + List.length body - 1 - 1 - 2 - 4)) (List.take (0 + List.length body - 1 - 1 - 2 - 4) (List.drop 8 body))) 9 (0 : UInt8))) : Int) == (1 : Int)) = false) ::
   ((IntKind.wrap IntKind.i64 (↑(UInt8.toNat (List.getD (List.take (0 + (0 + List.length body - 1 - 1 - 2 - 4)) (List.take (0 + List.length body - 1 - 1 - 2 - 4) (List.drop 8 body))) 9 (0 : UInt8))) : Int) == (1 : Int)) = true) ::
   ((!decide (IntKind.wrap IntKind.i64 (IntKind.wrap IntKind.i64 (IntKind.wrap IntKind.i64 (IntKind.wrap IntKind.i64 (bits BinOp.and IntKind.u8 (↑(UInt8.toNat (List.getD (List.take (0 + (0 + List.length body - 1 - 1 - 2 - 4)) (List.take (0 + List.length body - 1 - 1 - 2 - 4) (List.drop 8 body))) 0 (0 : UInt8))) : Int) (15 : Int)) * (4 : Int)) + (4 : Int)) + (2 : Int)) ≤ (↑(0 + (0 + (0 + List.length body - 1 - 1 - 2 - 4))) : Int))) = true) :: []))))))))))))))))))) := by kernel_rfl

set_option maxRecDepth 100000 in
theorem natShut_i_f_icmp (tos : Int) (id : Int) (flags : Int) (part : Int) (ttl : Int) (proto : Int) (f0 : Int) (f1 : Int) (f2 : Int) (f3 : Int) (t0 : Int) (t1 : Int) (t2 : Int) (t3 : Int) (opts : List UInt8) (body : List UInt8) (now : Int) : outT kTT [(60, { br := [(70, false)], ob := [(4, 1), (12, 1), (14, 5)] }),
   (90, { op := [(4, 8, .br false), (9, 8, .keep)], gd := [(4, 5, false), (4, 6, false), (4, 7, false)], br := [(26, false), (43, false)], ob := [(1, 1), (4, 6), (6, 1), (9, 8), (9, 10)] }),
   (55, { br := [(16, false)], ob := [(4, 6), (5, 6), (6, 2)] }),
   (86, { op := [(1, 7, .mrg), (1, 12, .mrg)], sp := [(1, 4), (1, 5), (1, 6), (1, 9), (1, 10), (1, 11)] }),
   (84, { op := [(1, 7, .mrg), (1, 12, .mrg)], br := [(16, true)], sp := [(1, 4), (1, 5), (1, 6), (1, 9), (1, 10), (1, 11)] }),
   (51, { ob := [(1, 2)] }),
   (47, { op := [(1, 8, .mrg)], sp := [(1, 4), (1, 5), (1, 6), (1, 7)] }),
   (111, { op := [(1, 4, .get), (1, 12, .get)], ob := [(1, 3), (1, 4), (1, 11), (1, 12)] }),
   (109, { br := [(9, true)] }),
   (108, { op := [(1, 7, .mrg), (1, 12, .mrg)], sp := [(1, 4), (1, 5), (1, 6), (1, 9), (1, 10), (1, 11)] }),
   (107, { op := [(2, 8, .get), (2, 11, .br false), (4, 3, .get), (5, 11, .br false), (5, 20, .br false), (7, 3, .get)], gd := [(2, 5, false), (2, 6, false), (2, 7, false), (2, 8, false), (2, 9, false), (2, 10, false), (5, 4, false), (5, 5, false), (5, 6, false), (5, 7, false), (5, 8, false), (5, 9, false), (5, 10, false), (5, 13, false), (5, 14, false), (5, 15, false), (5, 16, false), (5, 17, false), (5, 18, false), (5, 19, false)], br := [(20, false), (50, false)], ob := [(1, 2), (2, 7), (2, 8), (4, 2), (4, 3), (5, 17), (5, 18), (7, 2), (7, 3), (8, 4), (8, 5), (9, 4), (9, 5)] }),
   (9, { op := [(3, 9, .br false)], gd := [(3, 5, false), (3, 6, false), (3, 7, false), (3, 8, false)], br := [(20, false)], ob := [(6, 4), (7, 5)] }),
   (40, { br := [(6, false), (11, false), (16, false), (22, false)], ob := [(10, 1), (11, 1), (12, 1), (13, 1), (14, 2), (14, 3)] }),
   (35, { ob := [(1, 5), (1, 6)] }),
   (33, { ob := [(1, 3), (1, 4)] }),
   (32, { br := [(10, false), (16, false), (23, false), (31, false), (39, true)], ob := [(11, 4)] }),
   (64, { ob := [(1, 5)] })] Try.prog 9 [AV.agg [AV.val (Value.int IntKind.i64 tos), AV.val (Value.int IntKind.i64 id), AV.val (Value.int IntKind.i64 flags), AV.val (Value.int IntKind.i64 part), AV.val (Value.int IntKind.i64 ttl), AV.val (Value.int IntKind.i64 proto), AV.val (Value.int IntKind.u8 f0), AV.val (Value.int IntKind.u8 f1), AV.val (Value.int IntKind.u8 f2), AV.val (Value.int IntKind.u8 f3), AV.val (Value.int IntKind.u8 t0), AV.val (Value.int IntKind.u8 t1), AV.val (Value.int IntKind.u8 t2), AV.val (Value.int IntKind.u8 t3), AV.bytes opts, AV.bytes body], AV.val (Value.int IntKind.i64 now)] [] 0 =
   some (AV.val (Value.bool true), [], 1090,
   rp 5 (decide ((↑(List.length body) : Int) > (1500 : Int)) = false) (
   (decide ((↑(List.length opts) : Int) > (60 : Int)) = false) ::
   ((!(t0 == (203 : Int) && (t1 == (0 : Int) && (t2 == (113 : Int) && (t3 == (7 : Int) && true))))) = false) ::
   rp 4 ((part == (0 : Int)) = true → (part == (0 : Int)) = true) (
   ((!bif part == (0 : Int) then bits BinOp.and IntKind.i64 flags (1 : Int) == (0 : Int) else false) = false) ::
   ((proto == (17 : Int)) = false) ::
   ((proto == (6 : Int)) = false) ::
   ((proto == (1 : Int)) = true) ::
   ((proto != (1 : Int)) = false) ::
   rp 4 ((part == (0 : Int)) = true → (part == (0 : Int)) = true) (
   ((!bif part == (0 : Int) then bits BinOp.and IntKind.i64 flags (1 : Int) == (0 : Int) else false) = false) ::
   (decide ((↑(List.length body) : Int) < (8 : Int)) = false) ::
   (True) ::
   (List.length body ≤ 100000000) ::
   ((!ofL body == 0) = false) ::
   (True) ::
   (0 = 0 ∧ 0 + List.length body ≤ 1000000000) ::
   (1 ≤ 0 + List.length body) ::
   (0 + (0 + List.length body) ≤ List.length body) ::
   (1 ≤ 0 + List.length body - 1) ::
   (1 + (0 + List.length body - 1) ≤ List.length body) ::
   (2 ≤ 0 + List.length body - 1 - 1) ::
   (2 + (0 + List.length body - 1 - 1) ≤ List.length body) ::
   (4 ≤ 0 + List.length body - 1 - 1 - 2) ::
   (4 + (0 + List.length body - 1 - 1 - 2) ≤ List.length body) ::
   (decide ((↑(0 + List.length body - 1 - 1 - 2 - 4) : Int) > (↑(0 + List.length body - 1 - 1 - 2 - 4) : Int)) = false) ::
   ((0 : Int) ≤ (0 : Int)) ::
   rp 2 ((0 : Int) ≤ (↑(0 + List.length body - 1 - 1 - 2 - 4) : Int)) (
   (0 ≤ 0 + List.length body - 1 - 1 - 2 - 4 ∧ 0 + List.length body - 1 - 1 - 2 - 4 ≤ 0 + List.length body - 1 - 1 - 2 - 4 ∧ 8 + (0 + List.length body - 1 - 1 - 2 - 4) ≤ List.length body) ::
   rp 2 ((0 : Int) ≤ (↑(0 + List.length body - 1 - 1 - 2 - 4) : Int)) (
   (0 + List.length body - 1 - 1 - 2 - 4 ≤ 0 + List.length body - 1 - 1 - 2 - 4 ∧ 8 + (0 + List.length body - 1 - 1 - 2 - 4) ≤ List.length body) ::
   (8 + (0 + List.length body - 1 - 1 - 2 - 4) ≤ List.length body) ::
   (0 = 0 ∧ 0 + (0 + List.length body - 1 - 1 - 2 - 4) ≤ 1000000000) ::
   rp 3 (((↑(at8 body 0) : Int) != (8 : Int)) = true → ((↑(at8 body 0) : Int) != (8 : Int)) = true) (
   rp 2 ((!bif (↑(at8 body 0) : Int) != (8 : Int) then (↑(at8 body 0) : Int) != (0 : Int) else false) = true → (!bif (↑(at8 body 0) : Int) != (8 : Int) then (↑(at8 body 0) : Int) != (0 : Int) else false) = true) (
   ((bif (↑(at8 body 0) : Int) != (8 : Int) then (↑(at8 body 0) : Int) != (0 : Int) else false) = false → (!bif (↑(at8 body 0) : Int) != (8 : Int) then (↑(at8 body 0) : Int) != (0 : Int) else false) = true) ::
   ((bif bif (↑(at8 body 0) : Int) != (8 : Int) then (↑(at8 body 0) : Int) != (0 : Int) else false then true else (↑(at8 body 1) : Int) != (0 : Int)) = true) ::
   rp 2 ((!(↑(at8 body 0) : Int) == (3 : Int)) = true → (!(↑(at8 body 0) : Int) == (3 : Int)) = true) (
   (((↑(at8 body 0) : Int) == (3 : Int)) = false → (!(↑(at8 body 0) : Int) == (3 : Int)) = true) ::
   rp 2 ((!bif (↑(at8 body 0) : Int) == (3 : Int) then true else (↑(at8 body 0) : Int) == (11 : Int)) = true → (!bif (↑(at8 body 0) : Int) == (3 : Int) then true else (↑(at8 body 0) : Int) == (11 : Int)) = true) (
   ((bif (↑(at8 body 0) : Int) == (3 : Int) then true else (↑(at8 body 0) : Int) == (11 : Int)) = false → (!bif (↑(at8 body 0) : Int) == (3 : Int) then true else (↑(at8 body 0) : Int) == (11 : Int)) = true) ::
   ((!bif bif (↑(at8 body 0) : Int) == (3 : Int) then true else (↑(at8 body 0) : Int) == (11 : Int) then true else (↑(at8 body 0) : Int) == (12 : Int)) = false) ::
   (0 + (0 + (0 + List.length body - 1 - 1 - 2 - 4)) ≤ List.length (List.take (0 + List.length body - 1 - 1 - 2 - 4) (List.drop 8 body))) ::
   (0 = 0 ∧ 0 + (0 + (0 + List.length body - 1 - 1 - 2 - 4)) ≤ 1000000000) ::
   rp 3 (decide ((↑(0 + (0 + (0 + List.length body - 1 - 1 - 2 - 4))) : Int) < (24 : Int)) = false) (
   ((0 : Int) ≤ (0 : Int) ∧ (0 : Int) < (↑(0 + (0 + (0 + List.length body - 1 - 1 - 2 - 4))) : Int)) ::
   (decide ((↑(0 + (0 + (0 + List.length body - 1 - 1 - 2 - 4))) : Int) < (24 : Int)) = false) ::
   (0 < List.length (List.take (0 + (0 + List.length body - 1 - 1 - 2 - 4)) (List.take (0 + List.length body - 1 - 1 - 2 - 4) (List.drop 8 body)))) ::
   rp 3 (decide ((↑(0 + (0 + (0 + List.length body - 1 - 1 - 2 - 4))) : Int) < (24 : Int)) = false) (
   ((Int.fdiv (↑(UInt8.toNat (List.getD (List.take (0 + (0 + List.length body - 1 - 1 - 2 - 4)) (List.take (0 + List.length body - 1 - 1 - 2 - 4) (List.drop 8 body))) 0 (0 : UInt8))) : Int) (16 : Int) != (4 : Int)) = false) ::
   ((0 : Int) ≤ (0 : Int) ∧ (0 : Int) < (↑(0 + (0 + (0 + List.length body - 1 - 1 - 2 - 4))) : Int)) ::
   (0 < List.length (List.take (0 + (0 + List.length body - 1 - 1 - 2 - 4)) (List.take (0 + List.length body - 1 - 1 - 2 - 4) (List.drop 8 body)))) ::
   rp 8 (decide (IntKind.wrap IntKind.i64 (IntKind.wrap IntKind.i64 (bits BinOp.and IntKind.u8 (↑(UInt8.toNat (List.getD (List.take (0 + (0 + List.length body - 1 - 1 - 2 - 4)) (List.take (0 + List.length body - 1 - 1 - 2 - 4) (List.drop 8 body))) 0 (0 : UInt8))) : Int) (15 : Int)) * (4 : Int)) < (20 : Int)) = false) (
   rp 5 (decide (IntKind.wrap IntKind.i64 (IntKind.wrap IntKind.i64 (IntKind.wrap IntKind.i64 (bits BinOp.and IntKind.u8 (↑(UInt8.toNat (List.getD (List.take (0 + (0 + List.length body - 1 - 1 - 2 - 4)) (List.take (0 + List.length body - 1 - 1 - 2 - 4) (List.drop 8 body))) 0 (0 : UInt8))) : Int) (15 : Int)) * (4 : Int)) + (4 : Int)) > (↑(0 + (0 + (0 + List.length body - 1 - 1 - 2 - 4))) : Int)) = false) (
   ((0 : Int) ≤ (0 : Int)) ::
   ((0 : Int) ≤ IntKind.wrap IntKind.i64 (IntKind.wrap IntKind.i64 (bits BinOp.and IntKind.u8 (↑(UInt8.toNat (List.getD (List.take (0 + (0 + List.length body - 1 - 1 - 2 - 4)) (List.take (0 + List.length body - 1 - 1 - 2 - 4) (List.drop 8 body))) 0 (0 : UInt8))) : Int) (15 : Int)) * (4 : Int))) ::
   (0 ≤ Int.toNat (IntKind.wrap IntKind.i64 (IntKind.wrap IntKind.i64 (bits BinOp.and IntKind.u8 (↑(UInt8.toNat (List.getD (List.take (0 + (0 + List.length body - 1 - 1 - 2 - 4)) (List.take (0 + List.length body - 1 - 1 - 2 - 4) (List.drop 8 body))) 0 (0 : UInt8))) : Int) (15 : Int)) * (4 : Int))) ∧ 0 + Int.toNat (IntKind.wrap IntKind.i64 (IntKind.wrap IntKind.i64 (bits BinOp.and IntKind.u8 (↑(UInt8.toNat (List.getD (List.take (0 + (0 + List.length body - 1 - 1 - 2 - 4)) (List.take (0 + List.length body - 1 - 1 - 2 - 4) (List.drop 8 body))) 0 (0 : UInt8))) : Int) (15 : Int)) * (4 : Int))) ≤ List.length (List.take (0 + (0 + List.length body - 1 - 1 - 2 - 4)) (List.take (0 + List.length body - 1 - 1 - 2 - 4) (List.drop 8 body)))) ::
   (decide (IntKind.wrap IntKind.i64 (IntKind.wrap IntKind.i64 (IntKind.wrap IntKind.i64 (bits BinOp.and IntKind.u8 (↑(UInt8.toNat (List.getD (List.take (0 + (0 + List.length body - 1 - 1 - 2 - 4)) (List.take (0 + List.length body - 1 - 1 - 2 - 4) (List.drop 8 body))) 0 (0 : UInt8))) : Int) (15 : Int)) * (4 : Int)) + (4 : Int)) > (↑(0 + (0 + (0 + List.length body - 1 - 1 - 2 - 4))) : Int)) = false) ::
   (0 + Int.toNat (IntKind.wrap IntKind.i64 (IntKind.wrap IntKind.i64 (bits BinOp.and IntKind.u8 (↑(UInt8.toNat (List.getD (List.take (0 + (0 + List.length body - 1 - 1 - 2 - 4)) (List.take (0 + List.length body - 1 - 1 - 2 - 4) (List.drop 8 body))) 0 (0 : UInt8))) : Int) (15 : Int)) * (4 : Int))) ≤ List.length (List.take (0 + (0 + List.length body - 1 - 1 - 2 - 4)) (List.take (0 + List.length body - 1 - 1 - 2 - 4) (List.drop 8 body)))) ::
   (List.length (List.take (Int.toNat (IntKind.wrap IntKind.i64 (IntKind.wrap IntKind.i64 (bits BinOp.and IntKind.u8 (↑(UInt8.toNat (List.getD (List.take (0 + (0 + List.length body - 1 - 1 - 2 - 4)) (List.take (0 + List.length body - 1 - 1 - 2 - 4) (List.drop 8 body))) 0 (0 : UInt8))) : Int) (15 : Int)) * (4 : Int)))) (List.take (0 + (0 + List.length body - 1 - 1 - 2 - 4)) (List.take (0 + List.length body - 1 - 1 - 2 - 4) (List.drop 8 body)))) ≤ 100000000) ::
   rp 2 (decide (IntKind.wrap IntKind.i64 (IntKind.wrap IntKind.i64 (IntKind.wrap IntKind.i64 (bits BinOp.and IntKind.u8 (↑(UInt8.toNat (List.getD (List.take (0 + (0 + List.length body - 1 - 1 - 2 - 4)) (List.take (0 + List.length body - 1 - 1 - 2 - 4) (List.drop 8 body))) 0 (0 : UInt8))) : Int) (15 : Int)) * (4 : Int)) + (4 : Int)) > (↑(0 + (0 + (0 + List.length body - 1 - 1 - 2 - 4))) : Int)) = false) (
   ((!ofL (List.take (Int.toNat (IntKind.wrap IntKind.i64 (IntKind.wrap IntKind.i64 (bits BinOp.and IntKind.u8 (↑(UInt8.toNat (List.getD (List.take (0 + (0 + List.length body - 1 - 1 - 2 - 4)) (List.take (0 + List.length body - 1 - 1 - 2 - 4) (List.drop 8 body))) 0 (0 : UInt8))) : Int) (15 : Int)) * (4 : Int)))) (List.take (0 + (0 + List.length body - 1 - 1 - 2 - 4)) (List.take (0 + List.length body - 1 - 1 - 2 - 4) (List.drop 8 body)))) == 0) = false) ::
   ((0 : Int) ≤ (9 : Int) ∧ (9 : Int) < (↑(0 + (0 + (0 + List.length body - 1 - 1 - 2 - 4))) : Int)) ::
   (9 < List.length (List.take (0 + (0 + List.length body - 1 - 1 - 2 - 4)) (List.take (0 + List.length body - 1 - 1 - 2 - 4) (List.drop 8 body)))) ::
   ((0 : Int) ≤ (12 : Int)) ::
   ((0 : Int) ≤ (↑(0 + (0 + (0 + List.length body - 1 - 1 - 2 - 4))) : Int)) ::
   (12 ≤ 0 + (0 + (0 + List.length body - 1 - 1 - 2 - 4)) ∧ 0 + (0 + (0 + (0 + List.length body - 1 - 1 - 2 - 4))) ≤ List.length (List.take (0 + (0 + List.length body - 1 - 1 - 2 - 4)) (List.take (0 + List.length body - 1 - 1 - 2 - 4) (List.drop 8 body)))) ::
   (12 + (0 + (0 + (0 + List.length body - 1 - 1 - 2 - 4)) - 12) ≤ List.length (List.take (0 + (0 + List.length body - 1 - 1 - 2 - 4)) (List.take (0 + List.length body - 1 - 1 - 2 - 4) (List.drop 8 body)))) ::
   (0 < 4 ∧ 4 ≤ List.length (List.take (0 + (0 + (0 + List.length body - 1 - 1 - 2 - 4)) - 12) (List.drop 12 (List.take (0 + (0 + List.length body - 1 - 1 - 2 - 4)) (List.take (0 + List.length body - 1 - 1 - 2 - 4) (List.drop 8 body)))))) ::
   ((0 : Int) ≤ (16 : Int)) ::
   ((0 : Int) ≤ (↑(0 + (0 + (0 + List.length body - 1 - 1 - 2 - 4))) : Int)) ::
   (16 ≤ 0 + (0 + (0 + List.length body - 1 - 1 - 2 - 4)) ∧ 0 + (0 + (0 + (0 + List.length body - 1 - 1 - 2 - 4))) ≤ List.length (List.take (0 + (0 + List.length body - 1 - 1 - 2 - 4)) (List.take (0 + List.length body - 1 - 1 - 2 - 4) (List.drop 8 body)))) ::
   (16 + (0 + (0 + (0 + List.length body - 1 - 1 - 2 - 4)) - 16) ≤ List.length (List.take (0 + (0 + List.length body - 1 - 1 - 2 - 4)) (List.take (0 + List.length body - 1 - 1 - 2 - 4) (List.drop 8 body)))) ::
   (0 < 4 ∧ 4 ≤ List.length (List.take (0 + (0 + (0 + List.length body - 1 - 1 - 2 - 4)) - 16) (List.drop 16 (List.take (0 + (0 + List.length body - 1 - 1 - 2 - 4)) (List.take (0 + List.length body - 1 - 1 - 2 - 4) (List.drop 8 body)))))) ::
   rp 2 ((!((↑(UInt8.toNat (List.getD (List.take (0 + (0 + (0 + List.length body - 1 - 1 - 2 - 4)) - 12) (List.drop 12 (List.take (0 + (0 + List.length body - 1 - 1 - 2 - 4)) (List.take (0 + List.length body - 1 - 1 - 2 - 4) (List.drop 8 body))))) 0 (0 : UInt8))) : Int) == (203 : Int) && ((↑(UInt8.toNat (List.getD (List.take (0 + (0 + (0 + List.length body - 1 - 1 - 2 - 4)) - 12) (List.drop 12 (List.take (0 + (0 + List.length body - 1 - 1 - 2 - 4)) (List.take (0 + List.length body - 1 - 1 - 2 - 4) (List.drop 8 body))))) 1 (0 : UInt8))) : Int) == (0 : Int) && ((↑(UInt8.toNat (List.getD (List.take (0 + (0 + (0 + List.length body - 1 - 1 - 2 - 4)) - 12) (List.drop 12 (List.take (0 + (0 + List.length body - 1 - 1 - 2 - 4)) (List.take (0 + List.length body - 1 - 1 - 2 - 4) (List.drop 8 body))))) 2 (0 : UInt8))) : Int) == (113 : Int) && ((↑(UInt8.toNat (List.getD (List.take (0 + (0 + (0 + List.length body - 1 - 1 - 2 - 4)) - 12) (List.drop 12 (List.take (0 + (0 + List.length body - 1 - 1 - 2 - 4)) (List.take (0 + List.length body - 1 - 1 - 2 - 4) (List.drop 8 body))))) 3 (0 : UInt8))) : Int) == (7 : Int) && true))))) = false) (
   rp 2 ((!IntKind.wrap IntKind.i64 (↑(UInt8.toNat (List.getD (List.take (0 + (0 + List.length body - 1 - 1 - 2 - 4)) (List.take (0 + List.length body - 1 - 1 - 2 - 4) (List.drop 8 body))) 9 (0 : UInt8))) : Int) == (17 : Int)) = true → (!IntKind.wrap IntKind.i64 (↑(UInt8.toNat (List.getD (List.take (0 + (0 + List.length body - 1 - 1 - 2 - 4)) (List.take (0 + List.length body - 1 - 1 - 2 - 4) (List.drop 8 body))) 9 (0 : UInt8))) : Int) == (17 : Int)) = true) (
   ((IntKind.wrap IntKind.i64 (↑(UInt8.toNat (List.getD (List.take (0 + (0 + List.length body - 1 - 1 - 2 - 4)) (List.take (0 + List.length body - 1 - 1 - 2 - 4) (List.drop 8 body))) 9 (0 : UInt8))) : Int) == (17 : Int)) = false → (!IntKind.wrap IntKind.i64 (↑(UInt8.toNat (List.getD (List.take (0 + (0 + List.length body - 1 - 1 - 2 - 4)) (List.take (0 + List.length body - 1 - 1 - 2 - 4) (List.drop 8 body))) 9 (0 : UInt8))) : Int) == (17 : Int)) = true) ::
   rp 2 ((!bif IntKind.wrap IntKind.i64 (↑(UInt8.toNat (List.getD (List.take (0 + (0 + List.length body - 1 - 1 - 2 - 4)) (List.take (0 + List.length body - 1 - 1 - 2 - 4) (List.drop 8 body))) 9 (0 : UInt8))) : Int) == (17 : Int) then true else IntKind.wrap IntKind.i64 (↑(UInt8.toNat (List.getD (List.take (0 + (0 + List.length body - 1 - 1 - 2 - 4)) (List.take (0 + List.length body - 1 - 1 - 2 - 4) (List.drop 8 body))) 9 (0 : UInt8))) : Int) == (6 : Int)) = true → (!bif IntKind.wrap IntKind.i64 (↑(UInt8.toNat (List.getD (List.take (0 + (0 + List.length body - 1 - 1 - 2 - 4)) (List.take (0 + List.length body - 1 - 1 - 2 - 4) (List.drop 8 body))) 9 (0 : UInt8))) : Int) == (17 : Int) then true else IntKind.wrap IntKind.i64 (↑(UInt8.toNat (List.getD (List.take (0 + (0 + List.length body - 1 - 1 - 2 - 4)) (List.take (0 + List.length body - 1 - 1 - 2 - 4) (List.drop 8 body))) 9 (0 : UInt8))) : Int) == (6 : Int)) = true) (
   ((bif IntKind.wrap IntKind.i64 (↑(UInt8.toNat (List.getD (List.take (0 + (0 + List.length body - 1 - 1 - 2 - 4)) (List.take (0 + List.length body - 1 - 1 - 2 - 4) (List.drop 8 body))) 9 (0 : UInt8))) : Int) == (17 : Int) then true else IntKind.wrap IntKind.i64 (↑(UInt8.toNat (List.getD (List.take (0 + (0 + List.length body - 1 - 1 - 2 - 4)) (List.take (0 + List.length body - 1 - 1 - 2 - 4) (List.drop 8 body))) 9 (0 : UInt8))) : Int) == (6 : Int)) = false → (!bif IntKind.wrap IntKind.i64 (↑(UInt8.toNat (List.getD (List.take (0 + (0 + List.length body - 1 - 1 - 2 - 4)) (List.take (0 + List.length body - 1 - 1 - 2 - 4) (List.drop 8 body))) 9 (0 : UInt8))) : Int) == (17 : Int) then true else IntKind.wrap IntKind.i64 (↑(UInt8.toNat (List.getD (List.take (0 + (0 + List.length body - 1 - 1 - 2 - 4)) (List.take (0 + List.length body - 1 - 1 - 2 - 4) (List.drop 8 body))) 9 (0 : UInt8))) : Int) == (6 : Int)) = true) ::
   rp 2 ((!((↑(UInt8.toNat (List.getD (List.take (0 + (0 + (0 + List.length body - 1 - 1 - 2 - 4)) - 12) (List.drop 12 (List.take (0 + (0 + List.length body - 1 - 1 - 2 - 4)) (List.take (0 + List.length body - 1 - 1 - 2 - 4) (List.drop 8 body))))) 0 (0 : UInt8))) : Int) == (203 : Int) && ((↑(UInt8.toNat (List.getD (List.take (0 + (0 + (0 + List.length body - 1 - 1 - 2 - 4)) - 12) (List.drop 12 (List.take (0 + (0 + List.length body - 1 - 1 - 2 - 4)) (List.take (0 + List.length body - 1 - 1 - 2 - 4) (List.drop 8 body))))) 1 (0 : UInt8))) : Int) == (0 : Int) && ((↑(UInt8.toNat (List.getD (List.take (0 + (0 + (0 + List.length body - 1 - 1 - 2 - 4)) - 12) (List.drop 12 (List.take (0 + (0 + List.length body - 1 - 1 - 2 - 4)) (List.take (0 + List.length body - 1 - 1 - 2 - 4) (List.drop 8 body))))) 2 (0 : UInt8))) : Int) == (113 : Int) && ((↑(UInt8.toNat (List.getD (List.take (0 + (0 + (0 + List.length body - 1 - 1 - 2 - 4)) - 12) (List.drop 12 (List.take (0 + (0 + List.length body - 1 - 1 - 2 - 4)) (List.take (0 + List.length body - 1 - 1 - 2 - 4) (List.drop 8 body))))) 3 (0 : UInt8))) : Int) == (7 : Int) && true))))) = false) (
   ((!bif bif IntKind.wrap IntKind.i64 (↑(UInt8.toNat (List.getD (List.take (0 + (0 + List.length body - 1 - 1 - 2 - 4)) (List.take (0 + List.length body - 1 - 1 - 2 - 4) (List.drop 8 body))) 9 (0 : UInt8))) : Int) == (17 : Int) then true else IntKind.wrap IntKind.i64 (↑(UInt8.toNat (List.getD (List.take (0 + (0 + List.length body - 1 - 1 - 2 - 4)) (List.take (0 + List.length body - 1 - 1 - 2 - 4) (List.drop 8 body))) 9 (0 : UInt8))) : Int) == (6 : Int) then true else IntKind.wrap IntKind.i64 (↑(UInt8.toNat (List.getD (List.take (0 + (0 + List.length body - 1 - 1 - 2 - 4)) (List.take (0 + List.length body - 1 - 1 - 2 - 4) (List.drop 8 body))) 9 (0 : UInt8))) : Int) == (1 : Int)) = false) ::
   ((IntKind.wrap IntKind.i64 (↑(UInt8.toNat (List.getD (List.take (0 + (0 + List.length body - 1 - 1 - 2 - 4)) (List.take (0 + List.length body - 1 - 1 - 2 - 4) (List.drop 8 body))) 9 (0 : UInt8))) : Int) == (1 : Int)) = true) ::
   ((!decide (IntKind.wrap IntKind.i64 (IntKind.wrap IntKind.i64 (IntKind.wrap IntKind.i64 (IntKind.wrap IntKind.i64 (bits BinOp.and IntKind.u8 (↑(UInt8.toNat (List.getD (List.take (0 + (0 + List.length body - 1 - 1 - 2 - 4)) (List.take (0 + List.length body - 1 - 1 - 2 - 4) (List.drop 8 body))) 0 (0 : UInt8))) : Int) (15 : Int)) * (4 : Int)) + (4 : Int)) + (2 : Int)) ≤ (↑(0 + (0 + (0 + List.length body - 1 - 1 - 2 - 4))) : Int))) = false) ::
   ((0 : Int) ≤ IntKind.wrap IntKind.i64 (IntKind.wrap IntKind.i64 (IntKind.wrap IntKind.i64 (bits BinOp.and IntKind.u8 (↑(UInt8.toNat (List.getD (List.take (0 + (0 + List.length body - 1 - 1 - 2 - 4)) (List.take (0 + List.length body - 1 - 1 - 2 - 4) (List.drop 8 body))) 0 (0 : UInt8))) : Int) (15 : Int)) * (4 : Int)) + (4 : Int)) ∧ IntKind.wrap IntKind.i64 (IntKind.wrap IntKind.i64 (IntKind.wrap IntKind.i64 (bits BinOp.and IntKind.u8 (↑(UInt8.toNat (List.getD (List.take (0 + (0 + List.length body - 1 - 1 - 2 - 4)) (List.take (0 + List.length body - 1 - 1 - 2 - 4) (List.drop 8 body))) 0 (0 : UInt8))) : Int) (15 : Int)) * (4 : Int)) + (4 : Int)) < (↑(0 + (0 + (0 + List.length body - 1 - 1 - 2 - 4))) : Int)) ::
   (0 + Int.toNat (IntKind.wrap IntKind.i64 (IntKind.wrap IntKind.i64 (IntKind.wrap IntKind.i64 (bits BinOp.and IntKind.u8 (↑(UInt8.toNat (List.getD (List.take (0 + (0 + List.length body - 1 - 1 - 2 - 4)) (List.take (0 + List.length body - 1 - 1 - 2 - 4) (List.drop 8 body))) 0 (0 : UInt8))) : Int) (15 : Int)) * (4 : Int)) + (4 : Int))) < List.length (List.take (0 + (0 + List.length body - 1 - 1 - 2 - 4)) (List.take (0 + List.length body - 1 - 1 - 2 - 4) (List.drop 8 body)))) ::
   ((0 : Int) ≤ IntKind.wrap IntKind.i64 (IntKind.wrap IntKind.i64 (IntKind.wrap IntKind.i64 (IntKind.wrap IntKind.i64 (bits BinOp.and IntKind.u8 (↑(UInt8.toNat (List.getD (List.take (0 + (0 + List.length body - 1 - 1 - 2 - 4)) (List.take (0 + List.length body - 1 - 1 - 2 - 4) (List.drop 8 body))) 0 (0 : UInt8))) : Int) (15 : Int)) * (4 : Int)) + (4 : Int)) + (1 : Int)) ∧ IntKind.wrap IntKind.i64 (IntKind.wrap IntKind.i64 (IntKind.wrap IntKind.i64 (IntKind.wrap IntKind.i64 (bits BinOp.and IntKind.u8 (↑(UInt8.toNat (List.getD (List.take (0 + (0 + List.length body - 1 - 1 - 2 - 4)) (List.take (0 + List.length body - 1 - 1 - 2 - 4) (List.drop 8 body))) 0 (0 : UInt8))) : Int) (15 : Int)) * (4 : Int)) + (4 : Int)) + (1 : Int)) < (↑(0 + (0 + (0 + List.length body - 1 - 1 - 2 - 4))) : Int)) ::
   (0 + Int.toNat (IntKind.wrap IntKind.i64 (IntKind.wrap IntKind.i64 (IntKind.wrap IntKind.i64 (IntKind.wrap IntKind.i64 (bits BinOp.and IntKind.u8 (↑(UInt8.toNat (List.getD (List.take (0 + (0 + List.length body - 1 - 1 - 2 - 4)) (List.take (0 + List.length body - 1 - 1 - 2 - 4) (List.drop 8 body))) 0 (0 : UInt8))) : Int) (15 : Int)) * (4 : Int)) + (4 : Int)) + (1 : Int))) < List.length (List.take (0 + (0 + List.length body - 1 - 1 - 2 - 4)) (List.take (0 + List.length body - 1 - 1 - 2 - 4) (List.drop 8 body)))) ::
   (SameO (some { t := 5, sz := 1, exact := false, fz := false, body := Body.bytes (List.take (0 + (0 + List.length body - 1 - 1 - 2 - 4)) (List.take (0 + List.length body - 1 - 1 - 2 - 4) (List.drop 8 body))) }) { t := 5, sz := 1, exact := false, fz := false, body := Body.bytes (List.take (0 + (0 + List.length body - 1 - 1 - 2 - 4)) (List.take (0 + List.length body - 1 - 1 - 2 - 4) (List.drop 8 body))) }) :: []))))))))))))))))))) := by kernel_rfl

set_option maxRecDepth 100000 in
theorem natShut_i_f_udp (tos : Int) (id : Int) (flags : Int) (part : Int) (ttl : Int) (proto : Int) (f0 : Int) (f1 : Int) (f2 : Int) (f3 : Int) (t0 : Int) (t1 : Int) (t2 : Int) (t3 : Int) (opts : List UInt8) (body : List UInt8) (now : Int) : outT kTT [(60, { br := [(70, false)], ob := [(4, 1), (12, 1), (14, 5)] }),
   (90, { op := [(4, 8, .br false), (9, 8, .keep)], gd := [(4, 5, false), (4, 6, false), (4, 7, false)], br := [(26, false), (43, false)], ob := [(1, 1), (4, 6), (6, 1), (9, 8), (9, 10)] }),
   (55, { br := [(16, false)], ob := [(4, 6), (5, 6), (6, 2)] }),
   (86, { op := [(1, 7, .mrg), (1, 12, .mrg)], sp := [(1, 4), (1, 5), (1, 6), (1, 9), (1, 10), (1, 11)] }),
   (84, { op := [(1, 7, .mrg), (1, 12, .mrg)], br := [(16, true)], sp := [(1, 4), (1, 5), (1, 6), (1, 9), (1, 10), (1, 11)] }),
   (51, { ob := [(1, 2)] }),
   (47, { op := [(1, 8, .mrg)], sp := [(1, 4), (1, 5), (1, 6), (1, 7)] }),
   (111, { op := [(1, 4, .get), (1, 12, .get)], ob := [(1, 3), (1, 4), (1, 11), (1, 12)] }),
   (109, { br := [(9, false)] }),
   (108, { op := [(1, 7, .mrg), (1, 12, .mrg)], sp := [(1, 4), (1, 5), (1, 6), (1, 9), (1, 10), (1, 11)] }),
   (107, { op := [(2, 8, .get), (2, 11, .br false), (4, 3, .get), (5, 11, .br false), (5, 20, .br false), (7, 3, .get)], gd := [(2, 5, false), (2, 6, false), (2, 7, false), (2, 8, false), (2, 9, false), (2, 10, false), (5, 4, false), (5, 5, false), (5, 6, false), (5, 7, false), (5, 8, false), (5, 9, false), (5, 10, false), (5, 13, false), (5, 14, false), (5, 15, false), (5, 16, false), (5, 17, false), (5, 18, false), (5, 19, false)], br := [(20, false), (50, false)], ob := [(1, 2), (2, 7), (2, 8), (4, 2), (4, 3), (5, 17), (5, 18), (7, 2), (7, 3), (8, 4), (8, 5), (9, 4), (9, 5)] }),
   (9, { op := [(3, 9, .br false)], gd := [(3, 5, false), (3, 6, false), (3, 7, false), (3, 8, false)], br := [(20, false)], ob := [(6, 4), (7, 5)] }),
   (40, { br := [(6, false), (11, false), (16, false), (22, false)], ob := [(10, 1), (11, 1), (12, 1), (13, 1), (14, 2), (14, 3)] }),
   (35, { ob := [(1, 5), (1, 6)] }),
   (33, { ob := [(1, 3), (1, 4)] }),
   (32, { br := [(10, false), (16, false), (23, false), (31, false), (39, true)], ob := [(11, 4)] }),
   (64, { ob := [(1, 5)] })] Try.prog 9 [AV.agg [AV.val (Value.int IntKind.i64 tos), AV.val (Value.int IntKind.i64 id), AV.val (Value.int IntKind.i64 flags), AV.val (Value.int IntKind.i64 part), AV.val (Value.int IntKind.i64 ttl), AV.val (Value.int IntKind.i64 proto), AV.val (Value.int IntKind.u8 f0), AV.val (Value.int IntKind.u8 f1), AV.val (Value.int IntKind.u8 f2), AV.val (Value.int IntKind.u8 f3), AV.val (Value.int IntKind.u8 t0), AV.val (Value.int IntKind.u8 t1), AV.val (Value.int IntKind.u8 t2), AV.val (Value.int IntKind.u8 t3), AV.bytes opts, AV.bytes body], AV.val (Value.int IntKind.i64 now)] [] 0 =
   some (AV.val (Value.bool true), [], 1089,
   rp 5 (decide ((↑(List.length body) : Int) > (1500 : Int)) = false) (
   (decide ((↑(List.length opts) : Int) > (60 : Int)) = false) ::
   ((!(t0 == (203 : Int) && (t1 == (0 : Int) && (t2 == (113 : Int) && (t3 == (7 : Int) && true))))) = false) ::
   rp 4 ((part == (0 : Int)) = true → (part == (0 : Int)) = true) (
   ((!bif part == (0 : Int) then bits BinOp.and IntKind.i64 flags (1 : Int) == (0 : Int) else false) = false) ::
   ((proto == (17 : Int)) = false) ::
   ((proto == (6 : Int)) = false) ::
   ((proto == (1 : Int)) = true) ::
   ((proto != (1 : Int)) = false) ::
   rp 4 ((part == (0 : Int)) = true → (part == (0 : Int)) = true) (
   ((!bif part == (0 : Int) then bits BinOp.and IntKind.i64 flags (1 : Int) == (0 : Int) else false) = false) ::
   (decide ((↑(List.length body) : Int) < (8 : Int)) = false) ::
   (True) ::
   (List.length body ≤ 100000000) ::
   ((!ofL body == 0) = false) ::
   (True) ::
   (0 = 0 ∧ 0 + List.length body ≤ 1000000000) ::
   (1 ≤ 0 + List.length body) ::
   (0 + (0 + List.length body) ≤ List.length body) ::
   (1 ≤ 0 + List.length body - 1) ::
   (1 + (0 + List.length body - 1) ≤ List.length body) ::
   (2 ≤ 0 + List.length body - 1 - 1) ::
   (2 + (0 + List.length body - 1 - 1) ≤ List.length body) ::
   (4 ≤ 0 + List.length body - 1 - 1 - 2) ::
   (4 + (0 + List.length body - 1 - 1 - 2) ≤ List.length body) ::
   (decide ((↑(0 + List.length body - 1 - 1 - 2 - 4) : Int) > (↑(0 + List.length body - 1 - 1 - 2 - 4) : Int)) = false) ::
   ((0 : Int) ≤ (0 : Int)) ::
   rp 2 ((0 : Int) ≤ (↑(0 + List.length body - 1 - 1 - 2 - 4) : Int)) (
   (0 ≤ 0 + List.length body - 1 - 1 - 2 - 4 ∧ 0 + List.length body - 1 - 1 - 2 - 4 ≤ 0 + List.length body - 1 - 1 - 2 - 4 ∧ 8 + (0 + List.length body - 1 - 1 - 2 - 4) ≤ List.length body) ::
   rp 2 ((0 : Int) ≤ (↑(0 + List.length body - 1 - 1 - 2 - 4) : Int)) (
   (0 + List.length body - 1 - 1 - 2 - 4 ≤ 0 + List.length body - 1 - 1 - 2 - 4 ∧ 8 + (0 + List.length body - 1 - 1 - 2 - 4) ≤ List.length body) ::
   (8 + (0 + List.length body - 1 - 1 - 2 - 4) ≤ List.length body) ::
   (0 = 0 ∧ 0 + (0 + List.length body - 1 - 1 - 2 - 4) ≤ 1000000000) ::
   rp 3 (((↑(at8 body 0) : Int) != (8 : Int)) = true → ((↑(at8 body 0) : Int) != (8 : Int)) = true) (
   rp 2 ((!bif (↑(at8 body 0) : Int) != (8 : Int) then (↑(at8 body 0) : Int) != (0 : Int) else false) = true → (!bif (↑(at8 body 0) : Int) != (8 : Int) then (↑(at8 body 0) : Int) != (0 : Int) else false) = true) (
   ((bif (↑(at8 body 0) : Int) != (8 : Int) then (↑(at8 body 0) : Int) != (0 : Int) else false) = false → (!bif (↑(at8 body 0) : Int) != (8 : Int) then (↑(at8 body 0) : Int) != (0 : Int) else false) = true) ::
   ((bif bif (↑(at8 body 0) : Int) != (8 : Int) then (↑(at8 body 0) : Int) != (0 : Int) else false then true else (↑(at8 body 1) : Int) != (0 : Int)) = true) ::
   rp 2 ((!(↑(at8 body 0) : Int) == (3 : Int)) = true → (!(↑(at8 body 0) : Int) == (3 : Int)) = true) (
   (((↑(at8 body 0) : Int) == (3 : Int)) = false → (!(↑(at8 body 0) : Int) == (3 : Int)) = true) ::
   rp 2 ((!bif (↑(at8 body 0) : Int) == (3 : Int) then true else (↑(at8 body 0) : Int) == (11 : Int)) = true → (!bif (↑(at8 body 0) : Int) == (3 : Int) then true else (↑(at8 body 0) : Int) == (11 : Int)) = true) (
   ((bif (↑(at8 body 0) : Int) == (3 : Int) then true else (↑(at8 body 0) : Int) == (11 : Int)) = false → (!bif (↑(at8 body 0) : Int) == (3 : Int) then true else (↑(at8 body 0) : Int) == (11 : Int)) = true) ::
   ((!bif bif (↑(at8 body 0) : Int) == (3 : Int) then true else (↑(at8 body 0) : Int) == (11 : Int) then true else (↑(at8 body 0) : Int) == (12 : Int)) = false) ::
   (0 + (0 + (0 + List.length body - 1 - 1 - 2 - 4)) ≤ List.length (List.take (0 + List.length body - 1 - 1 - 2 - 4) (List.drop 8 body))) ::
   (0 = 0 ∧ 0 + (0 + (0 + List.length body - 1 - 1 - 2 - 4)) ≤ 1000000000) ::
   rp 3 (decide ((↑(0 + (0 + (0 + List.length body - 1 - 1 - 2 - 4))) : Int) < (24 : Int)) = false) (
   ((0 : Int) ≤ (0 : Int) ∧ (0 : Int) < (↑(0 + (0 + (0 + List.length body - 1 - 1 - 2 - 4))) : Int)) ::
   (decide ((↑(0 + (0 + (0 + List.length body - 1 - 1 - 2 - 4))) : Int) < (24 : Int)) = false) ::
   (0 < List.length (List.take (0 + (0 + List.length body - 1 - 1 - 2 - 4)) (List.take (0 + List.length body - 1 - 1 - 2 - 4) (List.drop 8 body)))) ::
   rp 3 (decide ((↑(0 + (0 + (0 + List.length body - 1 - 1 - 2 - 4))) : Int) < (24 : Int)) = false) (
   ((Int.fdiv (↑(UInt8.toNat (List.getD (List.take (0 + (0 + List.length body - 1 - 1 - 2 - 4)) (List.take (0 + List.length body - 1 - 1 - 2 - 4) (List.drop 8 body))) 0 (0 : UInt8))) : Int) (16 : Int) != (4 : Int)) = false) ::
   ((0 : Int) ≤ (0 : Int) ∧ (0 : Int) < (↑(0 + (0 + (0 + List.length body - 1 - 1 - 2 - 4))) : Int)) ::
   (0 < List.length (List.take (0 + (0 + List.length body - 1 - 1 - 2 - 4)) (List.take (0 + List.length body - 1 - 1 - 2 - 4) (List.drop 8 body)))) ::
   rp 8 (decide (IntKind.wrap IntKind.i64 (IntKind.wrap IntKind.i64 (bits BinOp.and IntKind.u8 (↑(UInt8.toNat (List.getD (List.take (0 + (0 + List.length body - 1 - 1 - 2 - 4)) (List.take (0 + List.length body - 1 - 1 - 2 - 4) (List.drop 8 body))) 0 (0 : UInt8))) : Int) (15 : Int)) * (4 : Int)) < (20 : Int)) = false) (
   rp 5 (decide (IntKind.wrap IntKind.i64 (IntKind.wrap IntKind.i64 (IntKind.wrap IntKind.i64 (bits BinOp.and IntKind.u8 (↑(UInt8.toNat (List.getD (List.take (0 + (0 + List.length body - 1 - 1 - 2 - 4)) (List.take (0 + List.length body - 1 - 1 - 2 - 4) (List.drop 8 body))) 0 (0 : UInt8))) : Int) (15 : Int)) * (4 : Int)) + (4 : Int)) > (↑(0 + (0 + (0 + List.length body - 1 - 1 - 2 - 4))) : Int)) = false) (
   ((0 : Int) ≤ (0 : Int)) ::
   ((0 : Int) ≤ IntKind.wrap IntKind.i64 (IntKind.wrap IntKind.i64 (bits BinOp.and IntKind.u8 (↑(UInt8.toNat (List.getD (List.take (0 + (0 + List.length body - 1 - 1 - 2 - 4)) (List.take (0 + List.length body - 1 - 1 - 2 - 4) (List.drop 8 body))) 0 (0 : UInt8))) : Int) (15 : Int)) * (4 : Int))) ::
   (0 ≤ Int.toNat (IntKind.wrap IntKind.i64 (IntKind.wrap IntKind.i64 (bits BinOp.and IntKind.u8 (↑(UInt8.toNat (List.getD (List.take (0 + (0 + List.length body - 1 - 1 - 2 - 4)) (List.take (0 + List.length body - 1 - 1 - 2 - 4) (List.drop 8 body))) 0 (0 : UInt8))) : Int) (15 : Int)) * (4 : Int))) ∧ 0 + Int.toNat (IntKind.wrap IntKind.i64 (IntKind.wrap IntKind.i64 (bits BinOp.and IntKind.u8 (↑(UInt8.toNat (List.getD (List.take (0 + (0 + List.length body - 1 - 1 - 2 - 4)) (List.take (0 + List.length body - 1 - 1 - 2 - 4) (List.drop 8 body))) 0 (0 : UInt8))) : Int) (15 : Int)) * (4 : Int))) ≤ List.length (List.take (0 + (0 + List.length body - 1 - 1 - 2 - 4)) (List.take (0 + List.length body - 1 - 1 - 2 - 4) (List.drop 8 body)))) ::
   (decide (IntKind.wrap IntKind.i64 (IntKind.wrap IntKind.i64 (IntKind.wrap IntKind.i64 (bits BinOp.and IntKind.u8 (↑(UInt8.toNat (List.getD (List.take (0 + (0 + List.length body - 1 - 1 - 2 - 4)) (List.take (0 + List.length body - 1 - 1 - 2 - 4) (List.drop 8 body))) 0 (0 : UInt8))) : Int) (15 : Int)) * (4 : Int)) + (4 : Int)) > (↑(0 + (0 + (0 + List.length body - 1 - 1 - 2 - 4))) : Int)) = false) ::
   (0 + Int.toNat (IntKind.wrap IntKind.i64 (IntKind.wrap IntKind.i64 (bits BinOp.and IntKind.u8 (↑(UInt8.toNat (List.getD (List.take (0 + (0 + List.length body - 1 - 1 - 2 - 4)) (List.take (0 + List.length body - 1 - 1 - 2 - 4) (List.drop 8 body))) 0 (0 : UInt8))) : Int) (15 : Int)) * (4 : Int))) ≤ List.length (List.take (0 + (0 + List.length body - 1 - 1 - 2 - 4)) (List.take (0 + List.length body - 1 - 1 - 2 - 4) (List.drop 8 body)))) ::
   (List.length (List.take (Int.toNat (IntKind.wrap IntKind.i64 (IntKind.wrap IntKind.i64 (bits BinOp.and IntKind.u8 (↑(UInt8.toNat (List.getD (List.take (0 + (0 + List.length body - 1 - 1 - 2 - 4)) (List.take (0 + List.length body - 1 - 1 - 2 - 4) (List.drop 8 body))) 0 (0 : UInt8))) : Int) (15 : Int)) * (4 : Int)))) (List.take (0 + (0 + List.length body - 1 - 1 - 2 - 4)) (List.take (0 + List.length body - 1 - 1 - 2 - 4) (List.drop 8 body)))) ≤ 100000000) ::
   rp 2 (decide (IntKind.wrap IntKind.i64 (IntKind.wrap IntKind.i64 (IntKind.wrap IntKind.i64 (bits BinOp.and IntKind.u8 (↑(UInt8.toNat (List.getD (List.take (0 + (0 + List.length body - 1 - 1 - 2 - 4)) (List.take (0 + List.length body - 1 - 1 - 2 - 4) (List.drop 8 body))) 0 (0 : UInt8))) : Int) (15 : Int)) * (4 : Int)) + (4 : Int)) > (↑(0 + (0 + (0 + List.length body - 1 - 1 - 2 - 4))) : Int)) = false) (
   ((!ofL (List.take (Int.toNat (IntKind.wrap IntKind.i64 (IntKind.wrap IntKind.i64 (bits BinOp.and IntKind.u8 (↑(UInt8.toNat (List.getD (List.take (0 + (0 + List.length body - 1 - 1 - 2 - 4)) (List.take (0 + List.length body - 1 - 1 - 2 - 4) (List.drop 8 body))) 0 (0 : UInt8))) : Int) (15 : Int)) * (4 : Int)))) (List.take (0 + (0 + List.length body - 1 - 1 - 2 - 4)) (List.take (0 + List.length body - 1 - 1 - 2 - 4) (List.drop 8 body)))) == 0) = false) ::
   ((0 : Int) ≤ (9 : Int) ∧ (9 : Int) < (↑(0 + (0 + (0 + List.length body - 1 - 1 - 2 - 4))) : Int)) ::
   (9 < List.length (List.take (0 + (0 + List.length body - 1 - 1 - 2 - 4)) (List.take (0 + List.length body - 1 - 1 - 2 - 4) (List.drop 8 body)))) ::
   ((0 : Int) ≤ (12 : Int)) ::
   ((0 : Int) ≤ (↑(0 + (0 + (0 + List.length body - 1 - 1 - 2 - 4))) : Int)) ::
   (12 ≤ 0 + (0 + (0 + List.length body - 1 - 1 - 2 - 4)) ∧ 0 + (0 + (0 + (0 + List.length body - 1 - 1 - 2 - 4))) ≤ List.length (List.take (0 + (0 + List.length body - 1 - 1 - 2 - 4)) (List.take (0 + List.length body - 1 - 1 - 2 - 4) (List.drop 8 body)))) ::
   (12 + (0 + (0 + (0 + List.length body - 1 - 1 - 2 - 4)) - 12) ≤ List.length (List.take (0 + (0 + List.length body - 1 - 1 - 2 - 4)) (List.take (0 + List.length body - 1 - 1 - 2 - 4) (List.drop 8 body)))) ::
   (0 < 4 ∧ 4 ≤ List.length (List.take (0 + (0 + (0 + List.length body - 1 - 1 - 2 - 4)) - 12) (List.drop 12 (List.take (0 + (0 + List.length body - 1 - 1 - 2 - 4)) (List.take (0 + List.length body - 1 - 1 - 2 - 4) (List.drop 8 body)))))) ::
   ((0 : Int) ≤ (16 : Int)) ::
   ((0 : Int) ≤ (↑(0 + (0 + (0 + List.length body - 1 - 1 - 2 - 4))) : Int)) ::
   (16 ≤ 0 + (0 + (0 + List.length body - 1 - 1 - 2 - 4)) ∧ 0 + (0 + (0 + (0 + List.length body - 1 - 1 - 2 - 4))) ≤ List.length (List.take (0 + (0 + List.length body - 1 - 1 - 2 - 4)) (List.take (0 + List.length body - 1 - 1 - 2 - 4) (List.drop 8 body)))) ::
   (16 + (0 + (0 + (0 + List.length body - 1 - 1 - 2 - 4)) - 16) ≤ List.length (List.take (0 + (0 + List.length body - 1 - 1 - 2 - 4)) (List.take (0 + List.length body - 1 - 1 - 2 - 4) (List.drop 8 body)))) ::
   (0 < 4 ∧ 4 ≤ List.length (List.take (0 + (0 + (0 + List.length body - 1 - 1 - 2 - 4)) - 16) (List.drop 16 (List.take (0 + (0 + List.length body - 1 - 1 - 2 - 4)) (List.take (0 + List.length body - 1 - 1 - 2 - 4) (List.drop 8 body)))))) ::
   rp 2 ((!((↑(UInt8.toNat (List.getD (List.take (0 + (0 + (0 + List.length body - 1 - 1 - 2 - 4)) - 12) (List.drop 12 (List.take (0 + (0 + List.length body - 1 - 1 - 2 - 4)) (List.take (0 + List.length body - 1 - 1 - 2 - 4) (List.drop 8 body))))) 0 (0 : UInt8))) : Int) == (203 : Int) && ((↑(UInt8.toNat (List.getD (List.take (0 + (0 + (0 + List.length body - 1 - 1 - 2 - 4)) - 12) (List.drop 12 (List.take (0 + (0 + List.length body - 1 - 1 - 2 - 4)) (List.take (0 + List.length body - 1 - 1 - 2 - 4) (List.drop 8 body))))) 1 (0 : UInt8))) : Int) == (0 : Int) && ((↑(UInt8.toNat (List.getD (List.take (0 + (0 + (0 + List.length body - 1 - 1 - 2 - 4)) - 12) (List.drop 12 (List.take (0 + (0 + List.length body - 1 - 1 - 2 - 4)) (List.take (0 + List.length body - 1 - 1 - 2 - 4) (List.drop 8 body))))) 2 (0 : UInt8))) : Int) == (113 : Int) && ((↑(UInt8.toNat (List.getD (List.take (0 + (0 + (0 + List.length body - 1 - 1 - 2 - 4)) - 12) (List.drop 12 (List.take (0 + (0 + List.length body - 1 - 1 - 2 - 4)) (List.take (0 + List.length body - 1 - 1 - 2 - 4) (List.drop 8 body))))) 3 (0 : UInt8))) : Int) == (7 : Int) && true))))) = false) (
   rp 2 ((!IntKind.wrap IntKind.i64 (↑(UInt8.toNat (List.getD (List.take (0 + (0 + List.length body - 1 - 1 - 2 - 4)) (List.take (0 + List.length body - 1 - 1 - 2 - 4) (List.drop 8 body))) 9 (0 : UInt8))) : Int) == (17 : Int)) = true → (!IntKind.wrap IntKind.i64 (↑(UInt8.toNat (List.getD (List.take (0 + (0 + List.length body - 1 - 1 - 2 - 4)) (List.take (0 + List.length body - 1 - 1 - 2 - 4) (List.drop 8 body))) 9 (0 : UInt8))) : Int) == (17 : Int)) = true) (
   ((IntKind.wrap IntKind.i64 (↑(UInt8.toNat (List.getD (List.take (0 + (0 + List.length body - 1 - 1 - 2 - 4)) (List.take (0 + List.length body - 1 - 1 - 2 - 4) (List.drop 8 body))) 9 (0 : UInt8))) : Int) == (17 : Int)) = false → (!IntKind.wrap IntKind.i64 (↑(UInt8.toNat (List.getD (List.take (0 + (0 + List.length body - 1 - 1 - 2 - 4)) (List.take (0 + List.length body - 1 - 1 - 2 - 4) (List.drop 8 body))) 9 (0 : UInt8))) : Int) == (17 : Int)) = true) ::
   rp 2 ((!bif IntKind.wrap IntKind.i64 (↑(UInt8.toNat (List.getD (List.take (0 + (0 + List.length body - 1 - 1 - 2 - 4)) (List.take (0 + List.length body - 1 - 1 - 2 - 4) (List.drop 8 body))) 9 (0 : UInt8))) : Int) == (17 : Int) then true else IntKind.wrap IntKind.i64 (↑(UInt8.toNat (List.getD (List.take (0 + (0 + List.length body - 1 - 1 - 2 - 4)) (List.take (0 + List.length body - 1 - 1 - 2 - 4) (List.drop 8 body))) 9 (0 : UInt8))) : Int) == (6 : Int)) = true → (!bif IntKind.wrap IntKind.i64 (↑(UInt8.toNat (List.getD (List.take (0 + (0 + List.length body - 1 - 1 - 2 - 4)) (List.take (0 + List.length body - 1 - 1 - 2 - 4) (List.drop 8 body))) 9 (0 : UInt8))) : Int) == (17 : Int) then true else IntKind.wrap IntKind.i64 (↑(UInt8.toNat (List.getD (List.take (0 + (0 + List.length body - 1 - 1 - 2 - 4)) (List.take (0 + List.length body - 1 - 1 - 2 - 4) (List.drop 8 body))) 9 (0 : UInt8))) : Int) == (6 : Int)) = true) (
   ((bif IntKind.wrap IntKind.i64 (↑(UInt8.toNat (List.getD (List.take (0 + (0 + List.length body - 1 - 1 - 2 - 4)) (List.take (0 + List.length body - 1 - 1 - 2 - 4) (List.drop 8 body))) 9 (0 : UInt8))) : Int) == (17 : Int) then true else IntKind.wrap IntKind.i64 (↑(UInt8.toNat (List.getD (List.take (0 + (0 + List.length body - 1 - 1 - 2 - 4)) (List.take (0 + List.length body - 1 - 1 - 2 - 4) (List.drop 8 body))) 9 (0 : UInt8))) : Int) == (6 : Int)) = false → (!bif IntKind.wrap IntKind.i64 (↑(UInt8.toNat (List.getD (List.take (0 + (0 + List.length body - 1 - 1 - 2 - 4)) (List.take (0 + List.length body - 1 - 1 - 2 - 4) (List.drop 8 body))) 9 (0 : UInt8))) : Int) == (17 : Int) then true else IntKind.wrap IntKind.i64 (↑(UInt8.toNat (List.getD (List.take (0 + (0 + List.length body - 1 - 1 - 2 - 4)) (List.take (0 + List.length body - 1 - 1 - 2 - 4) (List.drop 8 body))) 9 (0 : UInt8))) : Int) == (6 : Int)) = true) ::
   rp 2 ((!((↑(UInt8.toNat (List.getD (List.take (0 + (0 + (0 + List.length body - 1 - 1 - 2 - 4)) - 12) (List.drop 12 (List.take (0 + (0 + List.length body - 1 - 1 - 2 - 4)) (List.take (0 + List.length body - 1 - 1 - 2 - 4) (List.drop 8 body))))) 0 (0 : UInt8))) : Int) == (203 : Int) && ((↑(UInt8.toNat (List.getD (List.take (0 + (0 + (0 + List.length body - 1 - 1 - 2 - 4)) - 12) (List.drop 12 (List.take (0 + (0 + List.length body - 1 - 1 - 2 - 4)) (List.take (0 + List.length body - 1 - 1 - 2 - 4) (List.drop 8 body))))) 1 (0 : UInt8))) : Int) == (0 : Int) && ((↑(UInt8.toNat (List.getD (List.take (0 + (0 + (0 + List.length body - 1 - 1 - 2 - 4)) - 12) (List.drop 12 (List.take (0 + (0 + List.length body - 1 - 1 - 2 - 4)) (List.take (0 + List.length body - 1 - 1 - 2 - 4) (List.drop 8 body))))) 2 (0 : UInt8))) : Int) == (113 : Int) && ((↑(UInt8.toNat (List.getD (List.take (0 + (0 + (0 + List.length body - 1 - 1 - 2 - 4)) - 12) (List.drop 12 (List.take (0 + (0 + List.length body - 1 - 1 - 2 - 4)) (List.take (0 + List.length body - 1 - 1 - 2 - 4) (List.drop 8 body))))) 3 (0 : UInt8))) : Int) == (7 : Int) && true))))) = false) (
   ((!bif bif IntKind.wrap IntKind.i64 (↑(UInt8.toNat (List.getD (List.take (0 + (0 + List.length body - 1 - 1 - 2 - 4)) (List.take (0 + List.length body - 1 - 1 - 2 - 4) (List.drop 8 body))) 9 (0 : UInt8))) : Int) == (17 : Int) then true else IntKind.wrap IntKind.i64 (↑(UInt8.toNat (List.getD (List.take (0 + (0 + List.length body - 1 - 1 - 2 - 4)) (List.take (0 + List.length body - 1 - 1 - 2 - 4) (List.drop 8 body))) 9 (0 : UInt8))) : Int) == (6 : Int) then true else IntKind.wrap IntKind.i64 (↑(UInt8.toNat (List.getD (List.take (0 + (0 + List.length body - 1 - 1 - 2 - 4)) (List.take (0 + List.length body - 1 - 1 - 2 - 4) (List.drop 8 body))) 9 (0 : UInt8))) : Int) == (1 : Int)) = false) ::
   ((IntKind.wrap IntKind.i64 (↑(UInt8.toNat (List.getD (List.take (0 + (0 + List.length body - 1 - 1 - 2 - 4)) (List.take (0 + List.length body - 1 - 1 - 2 - 4) (List.drop 8 body))) 9 (0 : UInt8))) : Int) == (1 : Int)) = false) ::
   ((!decide (IntKind.wrap IntKind.i64 (IntKind.wrap IntKind.i64 (IntKind.wrap IntKind.i64 (bits BinOp.and IntKind.u8 (↑(UInt8.toNat (List.getD (List.take (0 + (0 + List.length body - 1 - 1 - 2 - 4)) (List.take (0 + List.length body - 1 - 1 - 2 - 4) (List.drop 8 body))) 0 (0 : UInt8))) : Int) (15 : Int)) * (4 : Int)) + (2 : Int)) ≤ (↑(0 + (0 + (0 + List.length body - 1 - 1 - 2 - 4))) : Int))) = false) ::
   ((0 : Int) ≤ IntKind.wrap IntKind.i64 (IntKind.wrap IntKind.i64 (bits BinOp.and IntKind.u8 (↑(UInt8.toNat (List.getD (List.take (0 + (0 + List.length body - 1 - 1 - 2 - 4)) (List.take (0 + List.length body - 1 - 1 - 2 - 4) (List.drop 8 body))) 0 (0 : UInt8))) : Int) (15 : Int)) * (4 : Int)) ∧ IntKind.wrap IntKind.i64 (IntKind.wrap IntKind.i64 (bits BinOp.and IntKind.u8 (↑(UInt8.toNat (List.getD (List.take (0 + (0 + List.length body - 1 - 1 - 2 - 4)) (List.take (0 + List.length body - 1 - 1 - 2 - 4) (List.drop 8 body))) 0 (0 : UInt8))) : Int) (15 : Int)) * (4 : Int)) < (↑(0 + (0 + (0 + List.length body - 1 - 1 - 2 - 4))) : Int)) ::
   (0 + Int.toNat (IntKind.wrap IntKind.i64 (IntKind.wrap IntKind.i64 (bits BinOp.and IntKind.u8 (↑(UInt8.toNat (List.getD (List.take (0 + (0 + List.length body - 1 - 1 - 2 - 4)) (List.take (0 + List.length body - 1 - 1 - 2 - 4) (List.drop 8 body))) 0 (0 : UInt8))) : Int) (15 : Int)) * (4 : Int))) < List.length (List.take (0 + (0 + List.length body - 1 - 1 - 2 - 4)) (List.take (0 + List.length body - 1 - 1 - 2 - 4) (List.drop 8 body)))) ::
   ((0 : Int) ≤ IntKind.wrap IntKind.i64 (IntKind.wrap IntKind.i64 (IntKind.wrap IntKind.i64 (bits BinOp.and IntKind.u8 (↑(UInt8.toNat (List.getD (List.take (0 + (0 + List.length body - 1 - 1 - 2 - 4)) (List.take (0 + List.length body - 1 - 1 - 2 - 4) (List.drop 8 body))) 0 (0 : UInt8))) : Int) (15 : Int)) * (4 : Int)) + (1 : Int)) ∧ IntKind.wrap IntKind.i64 (IntKind.wrap IntKind.i64 (IntKind.wrap IntKind.i64 (bits BinOp.and IntKind.u8 (↑(UInt8.toNat (List.getD (List.take (0 + (0 + List.length body - 1 - 1 - 2 - 4)) (List.take (0 + List.length body - 1 - 1 - 2 - 4) (List.drop 8 body))) 0 (0 : UInt8))) : Int) (15 : Int)) * (4 : Int)) + (1 : Int)) < (↑(0 + (0 + (0 + List.length body - 1 - 1 - 2 - 4))) : Int)) ::
   (0 + Int.toNat (IntKind.wrap IntKind.i64 (IntKind.wrap IntKind.i64 (IntKind.wrap IntKind.i64 (bits BinOp.and IntKind.u8 (↑(UInt8.toNat (List.getD (List.take (0 + (0 + List.length body - 1 - 1 - 2 - 4)) (List.take (0 + List.length body - 1 - 1 - 2 - 4) (List.drop 8 body))) 0 (0 : UInt8))) : Int) (15 : Int)) * (4 : Int)) + (1 : Int))) < List.length (List.take (0 + (0 + List.length body - 1 - 1 - 2 - 4)) (List.take (0 + List.length body - 1 - 1 - 2 - 4) (List.drop 8 body)))) ::
   (SameO (some { t := 5, sz := 1, exact := false, fz := false, body := Body.bytes (List.take (0 + (0 + List.length body - 1 - 1 - 2 - 4)) (List.take (0 + List.length body - 1 - 1 - 2 - 4) (List.drop 8 body))) }) { t := 5, sz := 1, exact := false, fz := false, body := Body.bytes (List.take (0 + (0 + List.length body - 1 - 1 - 2 - 4)) (List.take (0 + List.length body - 1 - 1 - 2 - 4) (List.drop 8 body))) }) :: []))))))))))))))))))) := by kernel_rfl
end Go.Proofs.Ytecmagdefllihaa
