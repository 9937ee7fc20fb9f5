/- The law NatStatics, reckoned on each of its ways. (Printed by wip/tools/gen.py from wip/sym/XSNt.lean.) -/
import Derived.Test.YtecmagdefllihaaUk
namespace Go.Proofs.Ytecmagdefllihaa
open Go.RowKit

set_option maxRecDepth 100000 in
theorem natStatics_o0 (out : Int) (inn : Int) (a0 : Int) (a1 : Int) (a2 : Int) (a3 : Int) (port : Int) (kind : Int) : outT kU [(13, { op := [(3, 5, .br true)], gd := [(3, 3, true), (3, 4, true)] })] Try.prog 13 [AV.val (Value.int IntKind.i64 out), AV.val (Value.int IntKind.i64 inn), AV.agg [AV.val (Value.int IntKind.u8 a0), AV.val (Value.int IntKind.u8 a1), AV.val (Value.int IntKind.u8 a2), AV.val (Value.int IntKind.u8 a3)], AV.val (Value.int IntKind.i64 port), AV.val (Value.int IntKind.i64 kind)] [] 0 =
   some (AV.val (Value.bool true), [], 35,
   rp 3 (decide (out < (1 : Int)) = true) ( [])) := by kernel_rfl

set_option maxRecDepth 100000 in
theorem natStatics_o1 (out : Int) (inn : Int) (a0 : Int) (a1 : Int) (a2 : Int) (a3 : Int) (port : Int) (kind : Int) : outT kU [(13, { op := [(3, 5, .br false), (3, 9, .br true)], gd := [(3, 3, false), (3, 4, false), (3, 7, true), (3, 8, true)] })] Try.prog 13 [AV.val (Value.int IntKind.i64 out), AV.val (Value.int IntKind.i64 inn), AV.agg [AV.val (Value.int IntKind.u8 a0), AV.val (Value.int IntKind.u8 a1), AV.val (Value.int IntKind.u8 a2), AV.val (Value.int IntKind.u8 a3)], AV.val (Value.int IntKind.i64 port), AV.val (Value.int IntKind.i64 kind)] [] 0 =
   some (AV.val (Value.bool true), [], 35,
   rp 3 (decide (out < (1 : Int)) = false) (
   rp 3 (decide (out > (65535 : Int)) = true) ( []))) := by kernel_rfl

set_option maxRecDepth 100000 in
theorem natStatics_i0 (out : Int) (inn : Int) (a0 : Int) (a1 : Int) (a2 : Int) (a3 : Int) (port : Int) (kind : Int) : outT kU [(13, { op := [(3, 5, .br false), (3, 9, .br false), (3, 13, .br true)], gd := [(3, 3, false), (3, 4, false), (3, 7, false), (3, 8, false), (3, 11, true), (3, 12, true)] })] Try.prog 13 [AV.val (Value.int IntKind.i64 out), AV.val (Value.int IntKind.i64 inn), AV.agg [AV.val (Value.int IntKind.u8 a0), AV.val (Value.int IntKind.u8 a1), AV.val (Value.int IntKind.u8 a2), AV.val (Value.int IntKind.u8 a3)], AV.val (Value.int IntKind.i64 port), AV.val (Value.int IntKind.i64 kind)] [] 0 =
   some (AV.val (Value.bool true), [], 35,
   rp 3 (decide (out < (1 : Int)) = false) (
   rp 3 (decide (out > (65535 : Int)) = false) (
   rp 3 (decide (inn < (1 : Int)) = true) ( [])))) := by kernel_rfl

set_option maxRecDepth 100000 in
theorem natStatics_i1 (out : Int) (inn : Int) (a0 : Int) (a1 : Int) (a2 : Int) (a3 : Int) (port : Int) (kind : Int) : outT kU [(13, { op := [(3, 5, .br false), (3, 9, .br false), (3, 13, .br false), (3, 17, .br true)], gd := [(3, 3, false), (3, 4, false), (3, 7, false), (3, 8, false), (3, 11, false), (3, 12, false), (3, 15, true), (3, 16, true)] })] Try.prog 13 [AV.val (Value.int IntKind.i64 out), AV.val (Value.int IntKind.i64 inn), AV.agg [AV.val (Value.int IntKind.u8 a0), AV.val (Value.int IntKind.u8 a1), AV.val (Value.int IntKind.u8 a2), AV.val (Value.int IntKind.u8 a3)], AV.val (Value.int IntKind.i64 port), AV.val (Value.int IntKind.i64 kind)] [] 0 =
   some (AV.val (Value.bool true), [], 35,
   rp 3 (decide (out < (1 : Int)) = false) (
   rp 3 (decide (out > (65535 : Int)) = false) (
   rp 3 (decide (inn < (1 : Int)) = false) (
   rp 3 (decide (inn > (65535 : Int)) = true) ( []))))) := by kernel_rfl

set_option maxRecDepth 100000 in
theorem natStatics_p0 (out : Int) (inn : Int) (a0 : Int) (a1 : Int) (a2 : Int) (a3 : Int) (port : Int) (kind : Int) : outT kU [(13, { op := [(3, 5, .br false), (3, 9, .br false), (3, 13, .br false), (3, 17, .br false), (3, 21, .br true)], gd := [(3, 3, false), (3, 4, false), (3, 7, false), (3, 8, false), (3, 11, false), (3, 12, false), (3, 15, false), (3, 16, false), (3, 19, true), (3, 20, true)] })] Try.prog 13 [AV.val (Value.int IntKind.i64 out), AV.val (Value.int IntKind.i64 inn), AV.agg [AV.val (Value.int IntKind.u8 a0), AV.val (Value.int IntKind.u8 a1), AV.val (Value.int IntKind.u8 a2), AV.val (Value.int IntKind.u8 a3)], AV.val (Value.int IntKind.i64 port), AV.val (Value.int IntKind.i64 kind)] [] 0 =
   some (AV.val (Value.bool true), [], 35,
   rp 3 (decide (out < (1 : Int)) = false) (
   rp 3 (decide (out > (65535 : Int)) = false) (
   rp 3 (decide (inn < (1 : Int)) = false) (
   rp 3 (decide (inn > (65535 : Int)) = false) (
   rp 3 (decide (port < (0 : Int)) = true) ( [])))))) := by kernel_rfl

set_option maxRecDepth 100000 in
theorem natStatics_p1 (out : Int) (inn : Int) (a0 : Int) (a1 : Int) (a2 : Int) (a3 : Int) (port : Int) (kind : Int) : outT kU [(13, { op := [(3, 5, .br false), (3, 9, .br false), (3, 13, .br false), (3, 17, .br false), (3, 21, .br false), (3, 25, .br true)], gd := [(3, 3, false), (3, 4, false), (3, 7, false), (3, 8, false), (3, 11, false), (3, 12, false), (3, 15, false), (3, 16, false), (3, 19, false), (3, 20, false), (3, 23, true), (3, 24, true)] })] Try.prog 13 [AV.val (Value.int IntKind.i64 out), AV.val (Value.int IntKind.i64 inn), AV.agg [AV.val (Value.int IntKind.u8 a0), AV.val (Value.int IntKind.u8 a1), AV.val (Value.int IntKind.u8 a2), AV.val (Value.int IntKind.u8 a3)], AV.val (Value.int IntKind.i64 port), AV.val (Value.int IntKind.i64 kind)] [] 0 =
   some (AV.val (Value.bool true), [], 35,
   rp 3 (decide (out < (1 : Int)) = false) (
   rp 3 (decide (out > (65535 : Int)) = false) (
   rp 3 (decide (inn < (1 : Int)) = false) (
   rp 3 (decide (inn > (65535 : Int)) = false) (
   rp 3 (decide (port < (0 : Int)) = false) (
   rp 3 (decide (port > (65535 : Int)) = true) ( []))))))) := by kernel_rfl

set_option maxRecDepth 100000 in
theorem natStatics_k0 (out : Int) (inn : Int) (a0 : Int) (a1 : Int) (a2 : Int) (a3 : Int) (port : Int) (kind : Int) : outT kU [(13, { op := [(3, 5, .br false), (3, 9, .br false), (3, 13, .br false), (3, 17, .br false), (3, 21, .br false), (3, 25, .br false), (3, 29, .br true)], gd := [(3, 3, false), (3, 4, false), (3, 7, false), (3, 8, false), (3, 11, false), (3, 12, false), (3, 15, false), (3, 16, false), (3, 19, false), (3, 20, false), (3, 23, false), (3, 24, false), (3, 27, true), (3, 28, true)] })] Try.prog 13 [AV.val (Value.int IntKind.i64 out), AV.val (Value.int IntKind.i64 inn), AV.agg [AV.val (Value.int IntKind.u8 a0), AV.val (Value.int IntKind.u8 a1), AV.val (Value.int IntKind.u8 a2), AV.val (Value.int IntKind.u8 a3)], AV.val (Value.int IntKind.i64 port), AV.val (Value.int IntKind.i64 kind)] [] 0 =
   some (AV.val (Value.bool true), [], 35,
   rp 3 (decide (out < (1 : Int)) = false) (
   rp 3 (decide (out > (65535 : Int)) = false) (
   rp 3 (decide (inn < (1 : Int)) = false) (
   rp 3 (decide (inn > (65535 : Int)) = false) (
   rp 3 (decide (port < (0 : Int)) = false) (
   rp 3 (decide (port > (65535 : Int)) = false) (
   rp 3 (decide (kind < (2 : Int)) = true) ( [])))))))) := by kernel_rfl

set_option maxRecDepth 100000 in
theorem natStatics_k1 (out : Int) (inn : Int) (a0 : Int) (a1 : Int) (a2 : Int) (a3 : Int) (port : Int) (kind : Int) : outT kU [(13, { op := [(3, 5, .br false), (3, 9, .br false), (3, 13, .br false), (3, 17, .br false), (3, 21, .br false), (3, 25, .br false), (3, 29, .br false)], gd := [(3, 3, false), (3, 4, false), (3, 7, false), (3, 8, false), (3, 11, false), (3, 12, false), (3, 15, false), (3, 16, false), (3, 19, false), (3, 20, false), (3, 23, false), (3, 24, false), (3, 27, false), (3, 28, false)], br := [(51, true)] })] Try.prog 13 [AV.val (Value.int IntKind.i64 out), AV.val (Value.int IntKind.i64 inn), AV.agg [AV.val (Value.int IntKind.u8 a0), AV.val (Value.int IntKind.u8 a1), AV.val (Value.int IntKind.u8 a2), AV.val (Value.int IntKind.u8 a3)], AV.val (Value.int IntKind.i64 port), AV.val (Value.int IntKind.i64 kind)] [] 0 =
   some (AV.val (Value.bool true), [], 35,
   rp 3 (decide (out < (1 : Int)) = false) (
   rp 3 (decide (out > (65535 : Int)) = false) (
   rp 3 (decide (inn < (1 : Int)) = false) (
   rp 3 (decide (inn > (65535 : Int)) = false) (
   rp 3 (decide (port < (0 : Int)) = false) (
   rp 3 (decide (port > (65535 : Int)) = false) (
   rp 3 (decide (kind < (2 : Int)) = false) (
   (decide (kind > (4 : Int)) = true) :: [])))))))) := by kernel_rfl

set_option maxRecDepth 100000 in
theorem natStatics_m (out : Int) (inn : Int) (a0 : Int) (a1 : Int) (a2 : Int) (a3 : Int) (port : Int) (kind : Int) (ys1 : List UInt8) (ys2 : List UInt8) (ys3 : List UInt8) : outS kU [(93, { ob := [(4, 5)] }),
   (91, { op := [(1, 2, .as (.c (.c (.eq (.val (.bool false))))))] }),
   (89, { op := [(3, 16, .br true)], gd := [(3, 14, true), (3, 15, true)], ob := [(1, 2), (2, 4)] }),
   (724000094, { op := [(1, 8, .as (.c (.c (.eq (.val (.bool true))))))] }),
   (603000094, { op := [(1, 8, .as (.c (.c (.eq (.val (.bool true))))))] }),
   (899000058, { op := [(4, 7, .keep)], ob := [(1, 1), (4, 7)] }),
   (13, { op := [(3, 5, .br false), (3, 9, .br false), (3, 13, .br false), (3, 17, .br false), (3, 21, .br false), (3, 25, .br false), (3, 29, .br false), (13, 9, .keep), (14, 23, .br true), (14, 27, .br true), (14, 30, .keep), (11, 5, .cut 468 (ys1)), (11, 7, .cut 806 (ys2)), (13, 7, .cut 854 (ys3))], gd := [(3, 3, false), (3, 4, false), (3, 7, false), (3, 8, false), (3, 11, false), (3, 12, false), (3, 15, false), (3, 16, false), (3, 19, false), (3, 20, false), (3, 23, false), (3, 24, false), (3, 27, false), (3, 28, false), (14, 19, true), (14, 20, true), (14, 21, true), (14, 22, true), (14, 25, true), (14, 26, true)], br := [(51, false), (62, false)], ob := [(11, 7), (12, 1), (13, 9), (14, 30)] }),
   (989000094, { op := [(1, 8, .as (.c (.c (.eq (.val (.bool false))))))] }),
   (513000058, { op := [(7, 12, .keep)], ob := [(1, 1), (4, 7), (7, 12), (9, 2)] }),
   (35, { ob := [(1, 5), (1, 6)] }),
   (66, { ob := [(1, 6)] }),
   (97, { ob := [(1, 2)] }),
   (65, { op := [(5, 12, .br true), (5, 17, .br true), (5, 20, .br true)], gd := [(5, 8, true), (5, 9, true), (5, 10, true), (5, 11, true), (5, 14, true), (5, 15, true), (5, 16, true), (5, 19, true)], br := [(20, false)] }),
   (33, { ob := [(1, 3), (1, 4)] }),
   (32, { ob := [(3, 1), (7, 3)] }),
   (64, { ob := [(1, 5)] }),
   (96, { op := [(1, 7, .br true)], gd := [(1, 4, true), (1, 5, true), (1, 6, true)] })] Try.prog 13 [AV.val (Value.int IntKind.i64 out), AV.val (Value.int IntKind.i64 inn), AV.agg [AV.val (Value.int IntKind.u8 a0), AV.val (Value.int IntKind.u8 a1), AV.val (Value.int IntKind.u8 a2), AV.val (Value.int IntKind.u8 a3)], AV.val (Value.int IntKind.i64 port), AV.val (Value.int IntKind.i64 kind)] [] 0 =
   some (AV.val (Value.bool true), [], 1130,
   rp 3 (decide (out < (1 : Int)) = false) (
   rp 3 (decide (out > (65535 : Int)) = false) (
   rp 3 (decide (inn < (1 : Int)) = false) (
   rp 3 (decide (inn > (65535 : Int)) = false) (
   rp 3 (decide (port < (0 : Int)) = false) (
   rp 3 (decide (port > (65535 : Int)) = false) (
   rp 3 (decide (kind < (2 : Int)) = false) (
   (decide (kind > (4 : Int)) = false) ::
   rp 2 ((kind == (4 : Int)) = false) (
   rp 4 (decide (out ≥ (1 : Int)) = true) (
   rp 4 (decide (out ≤ (65535 : Int)) = true) (
   rp 4 (decide (inn ≥ (1 : Int)) = true) (
   (decide (out ≤ (65535 : Int)) = true) ::
   rp 3 (decide (inn ≤ (65535 : Int)) = true) (
   rp 4 (decide (kind ≥ (2 : Int)) = true) (
   (decide (inn ≤ (65535 : Int)) = true) ::
   rp 2 (decide (kind ≤ (4 : Int)) = true) (
   rp 2 (True) (
   (1 ≤ 1) ::
   (byteP [a0, a1, a2, a3, (203 : Int), (0 : Int), (113 : Int), (7 : Int)]) ::
   ((0 : Int) ≤ port ∧ port ≤ (65535 : Int)) ::
   ((0 : Int) ≤ out ∧ out ≤ (65535 : Int)) ::
   (1 ≤ 1472) ::
   (0 ≤ 100000) ::
   (udpP a0 a1 a2 a3 (203 : Int) (0 : Int) (113 : Int) (7 : Int) port out [(120 : UInt8)] = ys1) ::
   (0 ≤ 0) ::
   (9 ≤ List.length ys1) ::
   ((17 : Int) = (17 : Int)) ::
   rp 2 ((0 : Int) = (0 : Int)) (
   (byteP [a0, a1, a2, a3, (203 : Int), (0 : Int), (113 : Int), (7 : Int)]) ::
   (8 ≤ at16 (List.take 9 ys1) 4) ::
   (at16 (List.take 9 ys1) 4 ≤ List.length (List.take 9 ys1)) ::
   (List.length (List.take 9 ys1) ≤ 100000) ::
   (at16 (List.take 9 ys1) 6 = 0 ∨ ofL (psd (17 : Int) a0 a1 a2 a3 (203 : Int) (0 : Int) (113 : Int) (7 : Int) (↑(at16 (List.take 9 ys1) 4) : Int) (List.take (at16 (List.take 9 ys1) 4) (List.take 9 ys1))) = 0) ::
   (AV.val (Value.bool (out == (↑(at16 (List.take 9 ys1) 2) : Int))) = AV.val (Value.bool true)) ::
   (AV.val (Value.bool (kind == (4 : Int))) = AV.val (Value.bool false)) ::
   (AV.val (Value.bool (out == out)) = AV.val (Value.bool true)) ::
   (AV.val (Value.bool (kind == (4 : Int))) = AV.val (Value.bool false)) ::
   rp 3 ((kind != (1 : Int)) = true) (
   (SameO (some { t := 65, sz := 9, exact := false, fz := false, body := Body.rows [[AV.val (Value.int IntKind.i64 (17 : Int)), AV.val (Value.int IntKind.i64 out), AV.val (Value.int IntKind.u8 (10 : Int)), AV.val (Value.int IntKind.u8 (0 : Int)), AV.val (Value.int IntKind.u8 (0 : Int)), AV.val (Value.int IntKind.u8 (9 : Int)), AV.val (Value.int IntKind.i64 inn), AV.val (Value.int IntKind.i64 kind), AV.val (Value.int IntKind.i64 (100 : Int))]] }) { t := 65, sz := 9, exact := false, fz := false, body := Body.rows [[AV.val (Value.int IntKind.i64 (17 : Int)), AV.val (Value.int IntKind.i64 out), AV.val (Value.int IntKind.u8 (10 : Int)), AV.val (Value.int IntKind.u8 (0 : Int)), AV.val (Value.int IntKind.u8 (0 : Int)), AV.val (Value.int IntKind.u8 (9 : Int)), AV.val (Value.int IntKind.i64 inn), AV.val (Value.int IntKind.i64 kind), AV.val (Value.int IntKind.i64 (100 : Int))]] }) ::
   (SameO (some { t := 109, sz := 4, exact := true, fz := false, body := Body.rows [[AV.val (Value.int IntKind.i64 (40000 : Int)), AV.val (Value.int IntKind.i64 (128 : Int)), AV.val (Value.int IntKind.i64 (50 : Int)), AV.sl 428 0 1 none]] }) { t := 109, sz := 4, exact := true, fz := false, body := Body.rows [[AV.val (Value.int IntKind.i64 (40000 : Int)), AV.val (Value.int IntKind.i64 (128 : Int)), AV.val (Value.int IntKind.i64 (50 : Int)), AV.sl 428 0 1 none]] }) ::
   (0 ≤ 0) ::
   (9 ≤ List.length ys1) ::
   (0 + (at16 (List.take 9 ys1) 4 - 8) ≤ List.length (List.take (at16 (List.take 9 ys1) 4 - 8) (List.drop 8 (List.take 9 ys1)))) ::
   (byteP [a0, a1, a2, a3, (10 : Int), (0 : Int), (0 : Int), (9 : Int)]) ::
   ((0 : Int) ≤ (↑(at16 (List.take 9 ys1) 0) : Int) ∧ (↑(at16 (List.take 9 ys1) 0) : Int) ≤ (65535 : Int)) ::
   ((0 : Int) ≤ inn ∧ inn ≤ (65535 : Int)) ::
   (List.length (List.take (at16 (List.take 9 ys1) 4 - 8) (List.take (at16 (List.take 9 ys1) 4 - 8) (List.drop 8 (List.take 9 ys1)))) ≤ 1472) ::
   (0 ≤ 100000) ::
   (udpP a0 a1 a2 a3 (10 : Int) (0 : Int) (0 : Int) (9 : Int) (↑(at16 (List.take 9 ys1) 0) : Int) inn (List.take (at16 (List.take 9 ys1) 4 - 8) (List.take (at16 (List.take 9 ys1) 4 - 8) (List.drop 8 (List.take 9 ys1)))) = ys2) ::
   (0 ≤ 0) ::
   (0 + (8 + List.length (List.take (at16 (List.take 9 ys1) 4 - 8) (List.take (at16 (List.take 9 ys1) 4 - 8) (List.drop 8 (List.take 9 ys1))))) ≤ List.length ys2) ::
   ((17 : Int) = (17 : Int)) ::
   rp 2 ((0 : Int) = (0 : Int)) (
   (byteP [a0, a1, a2, a3, (10 : Int), (0 : Int), (0 : Int), (9 : Int)]) ::
   (8 ≤ at16 (List.take (8 + List.length (List.take (at16 (List.take 9 ys1) 4 - 8) (List.take (at16 (List.take 9 ys1) 4 - 8) (List.drop 8 (List.take 9 ys1))))) ys2) 4) ::
   (at16 (List.take (8 + List.length (List.take (at16 (List.take 9 ys1) 4 - 8) (List.take (at16 (List.take 9 ys1) 4 - 8) (List.drop 8 (List.take 9 ys1))))) ys2) 4 ≤ List.length (List.take (8 + List.length (List.take (at16 (List.take 9 ys1) 4 - 8) (List.take (at16 (List.take 9 ys1) 4 - 8) (List.drop 8 (List.take 9 ys1))))) ys2)) ::
   (List.length (List.take (8 + List.length (List.take (at16 (List.take 9 ys1) 4 - 8) (List.take (at16 (List.take 9 ys1) 4 - 8) (List.drop 8 (List.take 9 ys1))))) ys2) ≤ 100000) ::
   (at16 (List.take (8 + List.length (List.take (at16 (List.take 9 ys1) 4 - 8) (List.take (at16 (List.take 9 ys1) 4 - 8) (List.drop 8 (List.take 9 ys1))))) ys2) 6 = 0 ∨ ofL (psd (17 : Int) a0 a1 a2 a3 (10 : Int) (0 : Int) (0 : Int) (9 : Int) (↑(at16 (List.take (8 + List.length (List.take (at16 (List.take 9 ys1) 4 - 8) (List.take (at16 (List.take 9 ys1) 4 - 8) (List.drop 8 (List.take 9 ys1))))) ys2) 4) : Int) (List.take (at16 (List.take (8 + List.length (List.take (at16 (List.take 9 ys1) 4 - 8) (List.take (at16 (List.take 9 ys1) 4 - 8) (List.drop 8 (List.take 9 ys1))))) ys2) 4) (List.take (8 + List.length (List.take (at16 (List.take 9 ys1) 4 - 8) (List.take (at16 (List.take 9 ys1) 4 - 8) (List.drop 8 (List.take 9 ys1))))) ys2))) = 0) ::
   rp 2 (True) (
   (1 ≤ 1) ::
   (byteP [a0, a1, a2, a3, (203 : Int), (0 : Int), (113 : Int), (7 : Int)]) ::
   ((0 : Int) ≤ port ∧ port ≤ (65535 : Int)) ::
   ((0 : Int) ≤ IntKind.wrap IntKind.i64 (Int.tmod out (65535 : Int) + (1 : Int)) ∧ IntKind.wrap IntKind.i64 (Int.tmod out (65535 : Int) + (1 : Int)) ≤ (65535 : Int)) ::
   (1 ≤ 1472) ::
   (0 ≤ 100000) ::
   (udpP a0 a1 a2 a3 (203 : Int) (0 : Int) (113 : Int) (7 : Int) port (IntKind.wrap IntKind.i64 (Int.tmod out (65535 : Int) + (1 : Int))) [(120 : UInt8)] = ys3) ::
   (0 ≤ 0) ::
   (9 ≤ List.length ys3) ::
   ((17 : Int) = (17 : Int)) ::
   rp 2 ((0 : Int) = (0 : Int)) (
   (byteP [a0, a1, a2, a3, (203 : Int), (0 : Int), (113 : Int), (7 : Int)]) ::
   (8 ≤ at16 (List.take 9 ys3) 4) ::
   (at16 (List.take 9 ys3) 4 ≤ List.length (List.take 9 ys3)) ::
   (List.length (List.take 9 ys3) ≤ 100000) ::
   (at16 (List.take 9 ys3) 6 = 0 ∨ ofL (psd (17 : Int) a0 a1 a2 a3 (203 : Int) (0 : Int) (113 : Int) (7 : Int) (↑(at16 (List.take 9 ys3) 4) : Int) (List.take (at16 (List.take 9 ys3) 4) (List.take 9 ys3))) = 0) ::
   (AV.val (Value.bool (out == (↑(at16 (List.take 9 ys3) 2) : Int))) = AV.val (Value.bool false)) ::
   (SameO (some { t := 65, sz := 9, exact := false, fz := false, body := Body.rows [[AV.val (Value.int IntKind.i64 (17 : Int)), AV.val (Value.int IntKind.i64 out), AV.val (Value.int IntKind.u8 (10 : Int)), AV.val (Value.int IntKind.u8 (0 : Int)), AV.val (Value.int IntKind.u8 (0 : Int)), AV.val (Value.int IntKind.u8 (9 : Int)), AV.val (Value.int IntKind.i64 inn), AV.val (Value.int IntKind.i64 kind), AV.val (Value.int IntKind.i64 (100 : Int))]] }) { t := 65, sz := 9, exact := false, fz := false, body := Body.rows [[AV.val (Value.int IntKind.i64 (17 : Int)), AV.val (Value.int IntKind.i64 out), AV.val (Value.int IntKind.u8 (10 : Int)), AV.val (Value.int IntKind.u8 (0 : Int)), AV.val (Value.int IntKind.u8 (0 : Int)), AV.val (Value.int IntKind.u8 (9 : Int)), AV.val (Value.int IntKind.i64 inn), AV.val (Value.int IntKind.i64 kind), AV.val (Value.int IntKind.i64 (100 : Int))]] }) ::
   (SameO (some { t := 109, sz := 4, exact := true, fz := false, body := Body.rows [[AV.val (Value.int IntKind.i64 (40000 : Int)), AV.val (Value.int IntKind.i64 (128 : Int)), AV.val (Value.int IntKind.i64 (50 : Int)), AV.sl 428 0 1 none]] }) { t := 109, sz := 4, exact := true, fz := false, body := Body.rows [[AV.val (Value.int IntKind.i64 (40000 : Int)), AV.val (Value.int IntKind.i64 (128 : Int)), AV.val (Value.int IntKind.i64 (50 : Int)), AV.sl 428 0 1 none]] }) ::
   (SameO (some { t := 5, sz := 1, exact := false, fz := false, body := Body.bytes ys3 }) { t := 5, sz := 1, exact := false, fz := false, body := Body.bytes ys3 }) ::
   (SameO (some { t := 5, sz := 1, exact := false, fz := false, body := Body.bytes [] }) { t := 5, sz := 1, exact := false, fz := false, body := Body.bytes [] }) ::
   (SameO (some { t := 88, sz := 2, exact := true, fz := false, body := Body.rows [[AV.val (Value.int IntKind.i64 (128 : Int)), AV.val (Value.slice none 0 0)]] }) { t := 88, sz := 2, exact := true, fz := false, body := Body.rows [[AV.val (Value.int IntKind.i64 (128 : Int)), AV.val (Value.slice none 0 0)]] }) ::
   (SameO (some { t := 65, sz := 9, exact := false, fz := false, body := Body.rows [[AV.val (Value.int IntKind.i64 (17 : Int)), AV.val (Value.int IntKind.i64 out), AV.val (Value.int IntKind.u8 (10 : Int)), AV.val (Value.int IntKind.u8 (0 : Int)), AV.val (Value.int IntKind.u8 (0 : Int)), AV.val (Value.int IntKind.u8 (9 : Int)), AV.val (Value.int IntKind.i64 inn), AV.val (Value.int IntKind.i64 kind), AV.val (Value.int IntKind.i64 (100 : Int))]] }) { t := 65, sz := 9, exact := false, fz := false, body := Body.rows [[AV.val (Value.int IntKind.i64 (17 : Int)), AV.val (Value.int IntKind.i64 out), AV.val (Value.int IntKind.u8 (10 : Int)), AV.val (Value.int IntKind.u8 (0 : Int)), AV.val (Value.int IntKind.u8 (0 : Int)), AV.val (Value.int IntKind.u8 (9 : Int)), AV.val (Value.int IntKind.i64 inn), AV.val (Value.int IntKind.i64 kind), AV.val (Value.int IntKind.i64 (100 : Int))]] }) ::
   (SameO (some { t := 109, sz := 4, exact := true, fz := false, body := Body.rows [[AV.val (Value.int IntKind.i64 (40000 : Int)), AV.val (Value.int IntKind.i64 (128 : Int)), AV.val (Value.int IntKind.i64 (50 : Int)), AV.sl 428 0 1 none]] }) { t := 109, sz := 4, exact := true, fz := false, body := Body.rows [[AV.val (Value.int IntKind.i64 (40000 : Int)), AV.val (Value.int IntKind.i64 (128 : Int)), AV.val (Value.int IntKind.i64 (50 : Int)), AV.sl 428 0 1 none]] }) ::
   (SameO (some { t := 113, sz := 5, exact := true, fz := false, body := Body.rows [[AV.ptr 67 0 0, AV.ptr 145 0 0, AV.val (Value.int IntKind.i64 (120 : Int)), AV.val (Value.int IntKind.i64 (7200 : Int)), AV.val (Value.int IntKind.i64 (30 : Int))]] }) { t := 113, sz := 5, exact := true, fz := false, body := Body.rows [[AV.ptr 67 0 0, AV.ptr 145 0 0, AV.val (Value.int IntKind.i64 (120 : Int)), AV.val (Value.int IntKind.i64 (7200 : Int)), AV.val (Value.int IntKind.i64 (30 : Int))]] }) ::
   rp 5 (((↑(at16 (List.take (8 + List.length (List.take (at16 (List.take 9 ys1) 4 - 8) (List.take (at16 (List.take 9 ys1) 4 - 8) (List.drop 8 (List.take 9 ys1))))) ys2) 2) : Int) == inn) = true) (
   rp 3 (((↑(at16 (List.take (8 + List.length (List.take (at16 (List.take 9 ys1) 4 - 8) (List.take (at16 (List.take 9 ys1) 4 - 8) (List.drop 8 (List.take 9 ys1))))) ys2) 0) : Int) == port) = true) (
   (AV.val (Value.bool (kind == (4 : Int))) = AV.val (Value.bool false)) ::
   (SameO (some { t := 65, sz := 9, exact := false, fz := false, body := Body.rows [[AV.val (Value.int IntKind.i64 (17 : Int)), AV.val (Value.int IntKind.i64 out), AV.val (Value.int IntKind.u8 (10 : Int)), AV.val (Value.int IntKind.u8 (0 : Int)), AV.val (Value.int IntKind.u8 (0 : Int)), AV.val (Value.int IntKind.u8 (9 : Int)), AV.val (Value.int IntKind.i64 inn), AV.val (Value.int IntKind.i64 kind), AV.val (Value.int IntKind.i64 (100 : Int))]] }) { t := 65, sz := 9, exact := false, fz := false, body := Body.rows [[AV.val (Value.int IntKind.i64 (17 : Int)), AV.val (Value.int IntKind.i64 out), AV.val (Value.int IntKind.u8 (10 : Int)), AV.val (Value.int IntKind.u8 (0 : Int)), AV.val (Value.int IntKind.u8 (0 : Int)), AV.val (Value.int IntKind.u8 (9 : Int)), AV.val (Value.int IntKind.i64 inn), AV.val (Value.int IntKind.i64 kind), AV.val (Value.int IntKind.i64 (100 : Int))]] }) ::
   (SameO (some { t := 109, sz := 4, exact := true, fz := false, body := Body.rows [[AV.val (Value.int IntKind.i64 (40000 : Int)), AV.val (Value.int IntKind.i64 (128 : Int)), AV.val (Value.int IntKind.i64 (50 : Int)), AV.sl 428 0 1 none]] }) { t := 109, sz := 4, exact := true, fz := false, body := Body.rows [[AV.val (Value.int IntKind.i64 (40000 : Int)), AV.val (Value.int IntKind.i64 (128 : Int)), AV.val (Value.int IntKind.i64 (50 : Int)), AV.sl 428 0 1 none]] }) :: []))))))))))))))))))))))) := by kernel_rfl

set_option maxRecDepth 100000 in
theorem natStatics_s (out : Int) (inn : Int) (a0 : Int) (a1 : Int) (a2 : Int) (a3 : Int) (port : Int) (kind : Int) (ys1 : List UInt8) (ys2 : List UInt8) (ys3 : List UInt8) : outS kU [(93, { ob := [(4, 5)] }),
   (730000094, { op := [(1, 8, .as (.c (.c (.eq (.val (.bool true))))))] }),
   (91, { op := [(1, 2, .as (.c (.c (.eq (.val (.bool true))))))] }),
   (89, { op := [(3, 16, .br true)], gd := [(3, 14, true), (3, 15, true)], ob := [(1, 2), (2, 4)] }),
   (519000058, { op := [(7, 12, .keep)], ob := [(1, 1), (4, 7), (7, 12), (9, 2)] }),
   (609000094, { op := [(1, 8, .as (.c (.c (.eq (.val (.bool true))))))] }),
   (995000094, { op := [(1, 8, .as (.c (.c (.eq (.val (.bool false))))))] }),
   (13, { op := [(3, 5, .br false), (3, 9, .br false), (3, 13, .br false), (3, 17, .br false), (3, 21, .br false), (3, 25, .br false), (3, 29, .br false), (13, 9, .keep), (14, 23, .br true), (14, 27, .br true), (14, 30, .keep), (11, 5, .cut 474 (ys1)), (11, 7, .cut 812 (ys2)), (13, 7, .cut 860 (ys3))], gd := [(3, 3, false), (3, 4, false), (3, 7, false), (3, 8, false), (3, 11, false), (3, 12, false), (3, 15, false), (3, 16, false), (3, 19, false), (3, 20, false), (3, 23, false), (3, 24, false), (3, 27, false), (3, 28, false), (14, 19, true), (14, 20, true), (14, 21, true), (14, 22, true), (14, 25, true), (14, 26, true)], br := [(51, false), (62, true)], ob := [(11, 7), (12, 1), (13, 9), (14, 30)] }),
   (905000058, { op := [(4, 7, .keep)], ob := [(1, 1), (4, 7)] }),
   (35, { ob := [(1, 5), (1, 6)] }),
   (66, { ob := [(1, 6)] }),
   (97, { ob := [(1, 2)] }),
   (65, { op := [(5, 12, .br true), (5, 17, .br true), (5, 20, .br true)], gd := [(5, 8, true), (5, 9, true), (5, 10, true), (5, 11, true), (5, 14, true), (5, 15, true), (5, 16, true), (5, 19, true)], br := [(20, true)] }),
   (33, { ob := [(1, 3), (1, 4)] }),
   (32, { ob := [(3, 1), (7, 3)] }),
   (64, { ob := [(1, 5)] }),
   (96, { op := [(1, 7, .br true)], gd := [(1, 4, true), (1, 5, true), (1, 6, true)] })] Try.prog 13 [AV.val (Value.int IntKind.i64 out), AV.val (Value.int IntKind.i64 inn), AV.agg [AV.val (Value.int IntKind.u8 a0), AV.val (Value.int IntKind.u8 a1), AV.val (Value.int IntKind.u8 a2), AV.val (Value.int IntKind.u8 a3)], AV.val (Value.int IntKind.i64 port), AV.val (Value.int IntKind.i64 kind)] [] 0 =
   some (AV.val (Value.bool true), [], 1136,
   rp 3 (decide (out < (1 : Int)) = false) (
   rp 3 (decide (out > (65535 : Int)) = false) (
   rp 3 (decide (inn < (1 : Int)) = false) (
   rp 3 (decide (inn > (65535 : Int)) = false) (
   rp 3 (decide (port < (0 : Int)) = false) (
   rp 3 (decide (port > (65535 : Int)) = false) (
   rp 3 (decide (kind < (2 : Int)) = false) (
   (decide (kind > (4 : Int)) = false) ::
   rp 2 ((kind == (4 : Int)) = true) (
   rp 4 (decide (out ≥ (1 : Int)) = true) (
   rp 4 (decide (out ≤ (65535 : Int)) = true) (
   rp 4 (decide (inn ≥ (1 : Int)) = true) (
   (decide (out ≤ (65535 : Int)) = true) ::
   rp 3 (decide (inn ≤ (65535 : Int)) = true) (
   rp 4 (decide (kind ≥ (2 : Int)) = true) (
   (decide (inn ≤ (65535 : Int)) = true) ::
   rp 2 (decide (kind ≤ (4 : Int)) = true) (
   rp 2 (True) (
   (1 ≤ 1) ::
   (byteP [a0, a1, a2, a3, (203 : Int), (0 : Int), (113 : Int), (7 : Int)]) ::
   ((0 : Int) ≤ port ∧ port ≤ (65535 : Int)) ::
   ((0 : Int) ≤ out ∧ out ≤ (65535 : Int)) ::
   (1 ≤ 1472) ::
   (0 ≤ 100000) ::
   (udpP a0 a1 a2 a3 (203 : Int) (0 : Int) (113 : Int) (7 : Int) port out [(120 : UInt8)] = ys1) ::
   (0 ≤ 0) ::
   (9 ≤ List.length ys1) ::
   ((17 : Int) = (17 : Int)) ::
   rp 2 ((0 : Int) = (0 : Int)) (
   (byteP [a0, a1, a2, a3, (203 : Int), (0 : Int), (113 : Int), (7 : Int)]) ::
   (8 ≤ at16 (List.take 9 ys1) 4) ::
   (at16 (List.take 9 ys1) 4 ≤ List.length (List.take 9 ys1)) ::
   (List.length (List.take 9 ys1) ≤ 100000) ::
   (at16 (List.take 9 ys1) 6 = 0 ∨ ofL (psd (17 : Int) a0 a1 a2 a3 (203 : Int) (0 : Int) (113 : Int) (7 : Int) (↑(at16 (List.take 9 ys1) 4) : Int) (List.take (at16 (List.take 9 ys1) 4) (List.take 9 ys1))) = 0) ::
   (AV.val (Value.bool (out == (↑(at16 (List.take 9 ys1) 2) : Int))) = AV.val (Value.bool true)) ::
   (AV.val (Value.bool (kind == (4 : Int))) = AV.val (Value.bool true)) ::
   (AV.val (Value.bool (out == out)) = AV.val (Value.bool true)) ::
   (AV.val (Value.bool (kind == (4 : Int))) = AV.val (Value.bool true)) ::
   rp 3 ((kind != (1 : Int)) = true) (
   (SameO (some { t := 65, sz := 9, exact := false, fz := false, body := Body.rows [[AV.val (Value.int IntKind.i64 (17 : Int)), AV.val (Value.int IntKind.i64 out), AV.val (Value.int IntKind.u8 (10 : Int)), AV.val (Value.int IntKind.u8 (0 : Int)), AV.val (Value.int IntKind.u8 (0 : Int)), AV.val (Value.int IntKind.u8 (9 : Int)), AV.val (Value.int IntKind.i64 inn), AV.val (Value.int IntKind.i64 kind), AV.val (Value.int IntKind.i64 (0 : Int))]] }) { t := 65, sz := 9, exact := false, fz := false, body := Body.rows [[AV.val (Value.int IntKind.i64 (17 : Int)), AV.val (Value.int IntKind.i64 out), AV.val (Value.int IntKind.u8 (10 : Int)), AV.val (Value.int IntKind.u8 (0 : Int)), AV.val (Value.int IntKind.u8 (0 : Int)), AV.val (Value.int IntKind.u8 (9 : Int)), AV.val (Value.int IntKind.i64 inn), AV.val (Value.int IntKind.i64 kind), AV.val (Value.int IntKind.i64 (0 : Int))]] }) ::
   (SameO (some { t := 109, sz := 4, exact := true, fz := false, body := Body.rows [[AV.val (Value.int IntKind.i64 (40000 : Int)), AV.val (Value.int IntKind.i64 (128 : Int)), AV.val (Value.int IntKind.i64 (50 : Int)), AV.sl 434 0 1 none]] }) { t := 109, sz := 4, exact := true, fz := false, body := Body.rows [[AV.val (Value.int IntKind.i64 (40000 : Int)), AV.val (Value.int IntKind.i64 (128 : Int)), AV.val (Value.int IntKind.i64 (50 : Int)), AV.sl 434 0 1 none]] }) ::
   (0 ≤ 0) ::
   (9 ≤ List.length ys1) ::
   (0 + (at16 (List.take 9 ys1) 4 - 8) ≤ List.length (List.take (at16 (List.take 9 ys1) 4 - 8) (List.drop 8 (List.take 9 ys1)))) ::
   (byteP [a0, a1, a2, a3, (10 : Int), (0 : Int), (0 : Int), (9 : Int)]) ::
   ((0 : Int) ≤ (↑(at16 (List.take 9 ys1) 0) : Int) ∧ (↑(at16 (List.take 9 ys1) 0) : Int) ≤ (65535 : Int)) ::
   ((0 : Int) ≤ inn ∧ inn ≤ (65535 : Int)) ::
   (List.length (List.take (at16 (List.take 9 ys1) 4 - 8) (List.take (at16 (List.take 9 ys1) 4 - 8) (List.drop 8 (List.take 9 ys1)))) ≤ 1472) ::
   (0 ≤ 100000) ::
   (udpP a0 a1 a2 a3 (10 : Int) (0 : Int) (0 : Int) (9 : Int) (↑(at16 (List.take 9 ys1) 0) : Int) inn (List.take (at16 (List.take 9 ys1) 4 - 8) (List.take (at16 (List.take 9 ys1) 4 - 8) (List.drop 8 (List.take 9 ys1)))) = ys2) ::
   (0 ≤ 0) ::
   (0 + (8 + List.length (List.take (at16 (List.take 9 ys1) 4 - 8) (List.take (at16 (List.take 9 ys1) 4 - 8) (List.drop 8 (List.take 9 ys1))))) ≤ List.length ys2) ::
   ((17 : Int) = (17 : Int)) ::
   rp 2 ((0 : Int) = (0 : Int)) (
   (byteP [a0, a1, a2, a3, (10 : Int), (0 : Int), (0 : Int), (9 : Int)]) ::
   (8 ≤ at16 (List.take (8 + List.length (List.take (at16 (List.take 9 ys1) 4 - 8) (List.take (at16 (List.take 9 ys1) 4 - 8) (List.drop 8 (List.take 9 ys1))))) ys2) 4) ::
   (at16 (List.take (8 + List.length (List.take (at16 (List.take 9 ys1) 4 - 8) (List.take (at16 (List.take 9 ys1) 4 - 8) (List.drop 8 (List.take 9 ys1))))) ys2) 4 ≤ List.length (List.take (8 + List.length (List.take (at16 (List.take 9 ys1) 4 - 8) (List.take (at16 (List.take 9 ys1) 4 - 8) (List.drop 8 (List.take 9 ys1))))) ys2)) ::
   (List.length (List.take (8 + List.length (List.take (at16 (List.take 9 ys1) 4 - 8) (List.take (at16 (List.take 9 ys1) 4 - 8) (List.drop 8 (List.take 9 ys1))))) ys2) ≤ 100000) ::
   (at16 (List.take (8 + List.length (List.take (at16 (List.take 9 ys1) 4 - 8) (List.take (at16 (List.take 9 ys1) 4 - 8) (List.drop 8 (List.take 9 ys1))))) ys2) 6 = 0 ∨ ofL (psd (17 : Int) a0 a1 a2 a3 (10 : Int) (0 : Int) (0 : Int) (9 : Int) (↑(at16 (List.take (8 + List.length (List.take (at16 (List.take 9 ys1) 4 - 8) (List.take (at16 (List.take 9 ys1) 4 - 8) (List.drop 8 (List.take 9 ys1))))) ys2) 4) : Int) (List.take (at16 (List.take (8 + List.length (List.take (at16 (List.take 9 ys1) 4 - 8) (List.take (at16 (List.take 9 ys1) 4 - 8) (List.drop 8 (List.take 9 ys1))))) ys2) 4) (List.take (8 + List.length (List.take (at16 (List.take 9 ys1) 4 - 8) (List.take (at16 (List.take 9 ys1) 4 - 8) (List.drop 8 (List.take 9 ys1))))) ys2))) = 0) ::
   rp 2 (True) (
   (1 ≤ 1) ::
   (byteP [a0, a1, a2, a3, (203 : Int), (0 : Int), (113 : Int), (7 : Int)]) ::
   ((0 : Int) ≤ port ∧ port ≤ (65535 : Int)) ::
   ((0 : Int) ≤ IntKind.wrap IntKind.i64 (Int.tmod out (65535 : Int) + (1 : Int)) ∧ IntKind.wrap IntKind.i64 (Int.tmod out (65535 : Int) + (1 : Int)) ≤ (65535 : Int)) ::
   (1 ≤ 1472) ::
   (0 ≤ 100000) ::
   (udpP a0 a1 a2 a3 (203 : Int) (0 : Int) (113 : Int) (7 : Int) port (IntKind.wrap IntKind.i64 (Int.tmod out (65535 : Int) + (1 : Int))) [(120 : UInt8)] = ys3) ::
   (0 ≤ 0) ::
   (9 ≤ List.length ys3) ::
   ((17 : Int) = (17 : Int)) ::
   rp 2 ((0 : Int) = (0 : Int)) (
   (byteP [a0, a1, a2, a3, (203 : Int), (0 : Int), (113 : Int), (7 : Int)]) ::
   (8 ≤ at16 (List.take 9 ys3) 4) ::
   (at16 (List.take 9 ys3) 4 ≤ List.length (List.take 9 ys3)) ::
   (List.length (List.take 9 ys3) ≤ 100000) ::
   (at16 (List.take 9 ys3) 6 = 0 ∨ ofL (psd (17 : Int) a0 a1 a2 a3 (203 : Int) (0 : Int) (113 : Int) (7 : Int) (↑(at16 (List.take 9 ys3) 4) : Int) (List.take (at16 (List.take 9 ys3) 4) (List.take 9 ys3))) = 0) ::
   (AV.val (Value.bool (out == (↑(at16 (List.take 9 ys3) 2) : Int))) = AV.val (Value.bool false)) ::
   (SameO (some { t := 65, sz := 9, exact := false, fz := false, body := Body.rows [[AV.val (Value.int IntKind.i64 (17 : Int)), AV.val (Value.int IntKind.i64 out), AV.val (Value.int IntKind.u8 (10 : Int)), AV.val (Value.int IntKind.u8 (0 : Int)), AV.val (Value.int IntKind.u8 (0 : Int)), AV.val (Value.int IntKind.u8 (9 : Int)), AV.val (Value.int IntKind.i64 inn), AV.val (Value.int IntKind.i64 kind), AV.val (Value.int IntKind.i64 (0 : Int))]] }) { t := 65, sz := 9, exact := false, fz := false, body := Body.rows [[AV.val (Value.int IntKind.i64 (17 : Int)), AV.val (Value.int IntKind.i64 out), AV.val (Value.int IntKind.u8 (10 : Int)), AV.val (Value.int IntKind.u8 (0 : Int)), AV.val (Value.int IntKind.u8 (0 : Int)), AV.val (Value.int IntKind.u8 (9 : Int)), AV.val (Value.int IntKind.i64 inn), AV.val (Value.int IntKind.i64 kind), AV.val (Value.int IntKind.i64 (0 : Int))]] }) ::
   (SameO (some { t := 109, sz := 4, exact := true, fz := false, body := Body.rows [[AV.val (Value.int IntKind.i64 (40000 : Int)), AV.val (Value.int IntKind.i64 (128 : Int)), AV.val (Value.int IntKind.i64 (50 : Int)), AV.sl 434 0 1 none]] }) { t := 109, sz := 4, exact := true, fz := false, body := Body.rows [[AV.val (Value.int IntKind.i64 (40000 : Int)), AV.val (Value.int IntKind.i64 (128 : Int)), AV.val (Value.int IntKind.i64 (50 : Int)), AV.sl 434 0 1 none]] }) ::
   (SameO (some { t := 5, sz := 1, exact := false, fz := false, body := Body.bytes ys3 }) { t := 5, sz := 1, exact := false, fz := false, body := Body.bytes ys3 }) ::
   (SameO (some { t := 5, sz := 1, exact := false, fz := false, body := Body.bytes [] }) { t := 5, sz := 1, exact := false, fz := false, body := Body.bytes [] }) ::
   (SameO (some { t := 88, sz := 2, exact := true, fz := false, body := Body.rows [[AV.val (Value.int IntKind.i64 (128 : Int)), AV.val (Value.slice none 0 0)]] }) { t := 88, sz := 2, exact := true, fz := false, body := Body.rows [[AV.val (Value.int IntKind.i64 (128 : Int)), AV.val (Value.slice none 0 0)]] }) ::
   (SameO (some { t := 65, sz := 9, exact := false, fz := false, body := Body.rows [[AV.val (Value.int IntKind.i64 (17 : Int)), AV.val (Value.int IntKind.i64 out), AV.val (Value.int IntKind.u8 (10 : Int)), AV.val (Value.int IntKind.u8 (0 : Int)), AV.val (Value.int IntKind.u8 (0 : Int)), AV.val (Value.int IntKind.u8 (9 : Int)), AV.val (Value.int IntKind.i64 inn), AV.val (Value.int IntKind.i64 kind), AV.val (Value.int IntKind.i64 (0 : Int))]] }) { t := 65, sz := 9, exact := false, fz := false, body := Body.rows [[AV.val (Value.int IntKind.i64 (17 : Int)), AV.val (Value.int IntKind.i64 out), AV.val (Value.int IntKind.u8 (10 : Int)), AV.val (Value.int IntKind.u8 (0 : Int)), AV.val (Value.int IntKind.u8 (0 : Int)), AV.val (Value.int IntKind.u8 (9 : Int)), AV.val (Value.int IntKind.i64 inn), AV.val (Value.int IntKind.i64 kind), AV.val (Value.int IntKind.i64 (0 : Int))]] }) ::
   (SameO (some { t := 109, sz := 4, exact := true, fz := false, body := Body.rows [[AV.val (Value.int IntKind.i64 (40000 : Int)), AV.val (Value.int IntKind.i64 (128 : Int)), AV.val (Value.int IntKind.i64 (50 : Int)), AV.sl 434 0 1 none]] }) { t := 109, sz := 4, exact := true, fz := false, body := Body.rows [[AV.val (Value.int IntKind.i64 (40000 : Int)), AV.val (Value.int IntKind.i64 (128 : Int)), AV.val (Value.int IntKind.i64 (50 : Int)), AV.sl 434 0 1 none]] }) ::
   (SameO (some { t := 113, sz := 5, exact := true, fz := false, body := Body.rows [[AV.ptr 67 0 0, AV.ptr 145 0 0, AV.val (Value.int IntKind.i64 (120 : Int)), AV.val (Value.int IntKind.i64 (7200 : Int)), AV.val (Value.int IntKind.i64 (30 : Int))]] }) { t := 113, sz := 5, exact := true, fz := false, body := Body.rows [[AV.ptr 67 0 0, AV.ptr 145 0 0, AV.val (Value.int IntKind.i64 (120 : Int)), AV.val (Value.int IntKind.i64 (7200 : Int)), AV.val (Value.int IntKind.i64 (30 : Int))]] }) ::
   rp 5 (((↑(at16 (List.take (8 + List.length (List.take (at16 (List.take 9 ys1) 4 - 8) (List.take (at16 (List.take 9 ys1) 4 - 8) (List.drop 8 (List.take 9 ys1))))) ys2) 2) : Int) == inn) = true) (
   rp 3 (((↑(at16 (List.take (8 + List.length (List.take (at16 (List.take 9 ys1) 4 - 8) (List.take (at16 (List.take 9 ys1) 4 - 8) (List.drop 8 (List.take 9 ys1))))) ys2) 0) : Int) == port) = true) (
   (AV.val (Value.bool (kind == (4 : Int))) = AV.val (Value.bool true)) ::
   (SameO (some { t := 65, sz := 9, exact := false, fz := false, body := Body.rows [[AV.val (Value.int IntKind.i64 (17 : Int)), AV.val (Value.int IntKind.i64 out), AV.val (Value.int IntKind.u8 (10 : Int)), AV.val (Value.int IntKind.u8 (0 : Int)), AV.val (Value.int IntKind.u8 (0 : Int)), AV.val (Value.int IntKind.u8 (9 : Int)), AV.val (Value.int IntKind.i64 inn), AV.val (Value.int IntKind.i64 kind), AV.val (Value.int IntKind.i64 (0 : Int))]] }) { t := 65, sz := 9, exact := false, fz := false, body := Body.rows [[AV.val (Value.int IntKind.i64 (17 : Int)), AV.val (Value.int IntKind.i64 out), AV.val (Value.int IntKind.u8 (10 : Int)), AV.val (Value.int IntKind.u8 (0 : Int)), AV.val (Value.int IntKind.u8 (0 : Int)), AV.val (Value.int IntKind.u8 (9 : Int)), AV.val (Value.int IntKind.i64 inn), AV.val (Value.int IntKind.i64 kind), AV.val (Value.int IntKind.i64 (0 : Int))]] }) ::
   (SameO (some { t := 109, sz := 4, exact := true, fz := false, body := Body.rows [[AV.val (Value.int IntKind.i64 (40000 : Int)), AV.val (Value.int IntKind.i64 (128 : Int)), AV.val (Value.int IntKind.i64 (50 : Int)), AV.sl 434 0 1 none]] }) { t := 109, sz := 4, exact := true, fz := false, body := Body.rows [[AV.val (Value.int IntKind.i64 (40000 : Int)), AV.val (Value.int IntKind.i64 (128 : Int)), AV.val (Value.int IntKind.i64 (50 : Int)), AV.sl 434 0 1 none]] }) :: []))))))))))))))))))))))) := by kernel_rfl
end Go.Proofs.Ytecmagdefllihaa
