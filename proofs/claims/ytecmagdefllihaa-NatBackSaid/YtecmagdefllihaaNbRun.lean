/- The law NatBack, reckoned on each of its ways. (Printed by wip/tools/gen.py from wip/sym/XSNb.lean.) -/
import Derived.Test.YtecmagdefllihaaUk
namespace Go.Proofs.Ytecmagdefllihaa
open Go.RowKit

set_option maxRecDepth 100000 in
theorem natBack_p0 (host : Int) (port : Int) (a0 : Int) (a1 : Int) (a2 : Int) (a3 : Int) (fp : Int) (body : List UInt8) : outT kU [(8, { op := [(3, 5, .br true)], gd := [(3, 3, true), (3, 4, true)] })] Try.prog 8 [AV.val (Value.int IntKind.i64 host), AV.val (Value.int IntKind.i64 port), AV.agg [AV.val (Value.int IntKind.u8 a0), AV.val (Value.int IntKind.u8 a1), AV.val (Value.int IntKind.u8 a2), AV.val (Value.int IntKind.u8 a3)], AV.val (Value.int IntKind.i64 fp), AV.bytes body] [] 0 =
   some (AV.val (Value.bool true), [], 24,
   rp 3 (decide (port < (1 : Int)) = true) ( [])) := by kernel_rfl

set_option maxRecDepth 100000 in
theorem natBack_p1 (host : Int) (port : Int) (a0 : Int) (a1 : Int) (a2 : Int) (a3 : Int) (fp : Int) (body : List UInt8) : outT kU [(8, { op := [(3, 5, .br false), (3, 9, .br true)], gd := [(3, 3, false), (3, 4, false), (3, 7, true), (3, 8, true)] })] Try.prog 8 [AV.val (Value.int IntKind.i64 host), AV.val (Value.int IntKind.i64 port), AV.agg [AV.val (Value.int IntKind.u8 a0), AV.val (Value.int IntKind.u8 a1), AV.val (Value.int IntKind.u8 a2), AV.val (Value.int IntKind.u8 a3)], AV.val (Value.int IntKind.i64 fp), AV.bytes body] [] 0 =
   some (AV.val (Value.bool true), [], 24,
   rp 3 (decide (port < (1 : Int)) = false) (
   rp 3 (decide (port > (65535 : Int)) = true) ( []))) := by kernel_rfl

set_option maxRecDepth 100000 in
theorem natBack_f0 (host : Int) (port : Int) (a0 : Int) (a1 : Int) (a2 : Int) (a3 : Int) (fp : Int) (body : List UInt8) : outT kU [(8, { op := [(3, 5, .br false), (3, 9, .br false), (3, 13, .br true)], gd := [(3, 3, false), (3, 4, false), (3, 7, false), (3, 8, false), (3, 11, true), (3, 12, true)] })] Try.prog 8 [AV.val (Value.int IntKind.i64 host), AV.val (Value.int IntKind.i64 port), AV.agg [AV.val (Value.int IntKind.u8 a0), AV.val (Value.int IntKind.u8 a1), AV.val (Value.int IntKind.u8 a2), AV.val (Value.int IntKind.u8 a3)], AV.val (Value.int IntKind.i64 fp), AV.bytes body] [] 0 =
   some (AV.val (Value.bool true), [], 24,
   rp 3 (decide (port < (1 : Int)) = false) (
   rp 3 (decide (port > (65535 : Int)) = false) (
   rp 3 (decide (fp < (0 : Int)) = true) ( [])))) := by kernel_rfl

set_option maxRecDepth 100000 in
theorem natBack_f1 (host : Int) (port : Int) (a0 : Int) (a1 : Int) (a2 : Int) (a3 : Int) (fp : Int) (body : List UInt8) : outT kU [(8, { op := [(3, 5, .br false), (3, 9, .br false), (3, 13, .br false), (3, 18, .br true)], gd := [(3, 3, false), (3, 4, false), (3, 7, false), (3, 8, false), (3, 11, false), (3, 12, false), (3, 15, true), (3, 16, true), (3, 17, true)] })] Try.prog 8 [AV.val (Value.int IntKind.i64 host), AV.val (Value.int IntKind.i64 port), AV.agg [AV.val (Value.int IntKind.u8 a0), AV.val (Value.int IntKind.u8 a1), AV.val (Value.int IntKind.u8 a2), AV.val (Value.int IntKind.u8 a3)], AV.val (Value.int IntKind.i64 fp), AV.bytes body] [] 0 =
   some (AV.val (Value.bool true), [], 24,
   rp 3 (decide (port < (1 : Int)) = false) (
   rp 3 (decide (port > (65535 : Int)) = false) (
   rp 3 (decide (fp < (0 : Int)) = false) (
   rp 4 (decide (fp > (65535 : Int)) = true) ( []))))) := by kernel_rfl

set_option maxRecDepth 100000 in
theorem natBack_big (host : Int) (port : Int) (a0 : Int) (a1 : Int) (a2 : Int) (a3 : Int) (fp : Int) (body : List UInt8) : outT kU [(8, { op := [(3, 5, .br false), (3, 9, .br false), (3, 13, .br false), (3, 18, .br false)], gd := [(3, 3, false), (3, 4, false), (3, 7, false), (3, 8, false), (3, 11, false), (3, 12, false), (3, 15, false), (3, 16, false), (3, 17, false)], br := [(43, true)] })] Try.prog 8 [AV.val (Value.int IntKind.i64 host), AV.val (Value.int IntKind.i64 port), AV.agg [AV.val (Value.int IntKind.u8 a0), AV.val (Value.int IntKind.u8 a1), AV.val (Value.int IntKind.u8 a2), AV.val (Value.int IntKind.u8 a3)], AV.val (Value.int IntKind.i64 fp), AV.bytes body] [] 0 =
   some (AV.val (Value.bool true), [], 24,
   rp 3 (decide (port < (1 : Int)) = false) (
   rp 3 (decide (port > (65535 : Int)) = false) (
   rp 3 (decide (fp < (0 : Int)) = false) (
   rp 4 (decide (fp > (65535 : Int)) = false) (
   (decide ((↑(List.length body) : Int) > (1000 : Int)) = true) :: []))))) := by kernel_rfl

set_option maxRecDepth 100000 in
theorem natBack_lo (host : Int) (port : Int) (a0 : Int) (a1 : Int) (a2 : Int) (a3 : Int) (fp : Int) (body : List UInt8) (ys1 : List UInt8) (ys2 : List UInt8) (ys3 : List UInt8) (ys4 : List UInt8) : outT kU [(94, { op := [(1, 14, .br true)], gd := [(1, 11, true), (1, 12, true), (1, 13, true)] }),
   (93, { ob := [(4, 5)] }),
   (58, { ob := [(1, 1), (4, 7), (7, 12), (9, 2)] }),
   (25, { ob := [(1, 1), (5, 4)] }),
   (89, { ob := [(1, 2), (2, 4)] }),
   (81, { op := [(3, 12, .br false)], gd := [(3, 10, false), (3, 11, false)] }),
   (48, { br := [(23, false)], ob := [(1, 1), (10, 2)] }),
   (105, { op := [(1, 16, .br false)], gd := [(1, 8, false), (1, 9, false), (1, 10, false), (1, 11, false), (1, 12, false), (1, 13, false), (1, 14, false), (1, 15, false)] }),
   (8, { op := [(3, 5, .br false), (3, 9, .br false), (3, 13, .br false), (3, 18, .br false), (11, 30, .br true), (11, 36, .br true), (11, 42, .br true), (11, 50, .br true), (11, 55, .br true), (6, 5, .cut 192 (ys1)), (6, 7, .cut 531 (ys2)), (8, 9, .cut 561 (ys3)), (9, 3, .cut 918 (ys4))], gd := [(3, 3, false), (3, 4, false), (3, 7, false), (3, 8, false), (3, 11, false), (3, 12, false), (3, 15, false), (3, 16, false), (3, 17, false), (11, 26, true), (11, 27, true), (11, 28, true), (11, 29, true), (11, 32, true), (11, 33, true), (11, 34, true), (11, 35, true), (11, 38, true), (11, 39, true), (11, 40, true), (11, 41, true), (11, 44, true), (11, 45, true), (11, 46, true), (11, 47, true), (11, 48, true), (11, 49, true), (11, 52, true), (11, 53, true), (11, 54, true)], br := [(43, false)], ob := [(6, 7), (7, 1), (9, 3), (10, 1), (11, 46)] }),
   (35, { ob := [(1, 5), (1, 6)] }),
   (66, { ob := [(1, 6)] }),
   (97, { ob := [(1, 2)] }),
   (32, { ob := [(3, 1), (7, 3)] }),
   (64, { ob := [(1, 5)] }),
   (96, { op := [(1, 7, .br true)], gd := [(1, 4, true), (1, 5, true), (1, 6, true)] })] Try.prog 8 [AV.val (Value.int IntKind.i64 host), AV.val (Value.int IntKind.i64 port), AV.agg [AV.val (Value.int IntKind.u8 a0), AV.val (Value.int IntKind.u8 a1), AV.val (Value.int IntKind.u8 a2), AV.val (Value.int IntKind.u8 a3)], AV.val (Value.int IntKind.i64 fp), AV.bytes body] [] 0 =
   some (AV.val (Value.bool true), [], 1015,
   rp 3 (decide (port < (1 : Int)) = false) (
   rp 3 (decide (port > (65535 : Int)) = false) (
   rp 3 (decide (fp < (0 : Int)) = false) (
   rp 4 (decide (fp > (65535 : Int)) = false) (
   (decide ((↑(List.length body) : Int) > (1000 : Int)) = false) ::
   rp 2 (True) (
   (1 ≤ 1) ::
   (byteP [(10 : Int), (0 : Int), (0 : Int), IntKind.wrap IntKind.u8 host, (8 : Int), (8 : Int), (8 : Int), (8 : Int)]) ::
   ((0 : Int) ≤ port ∧ port ≤ (65535 : Int)) ::
   ((0 : Int) ≤ (53 : Int) ∧ (53 : Int) ≤ (65535 : Int)) ::
   (1 ≤ 1472) ::
   (0 ≤ 100000) ::
   (udpP (10 : Int) (0 : Int) (0 : Int) (IntKind.wrap IntKind.u8 host) (8 : Int) (8 : Int) (8 : Int) (8 : Int) port (53 : Int) [(120 : UInt8)] = ys1) ::
   (0 ≤ 0) ::
   (9 ≤ List.length ys1) ::
   ((17 : Int) = (17 : Int)) ::
   rp 2 ((0 : Int) = (0 : Int)) (
   (byteP [(10 : Int), (0 : Int), (0 : Int), IntKind.wrap IntKind.u8 host, (8 : Int), (8 : Int), (8 : Int), (8 : Int)]) ::
   (8 ≤ at16 (List.take 9 ys1) 4) ::
   (at16 (List.take 9 ys1) 4 ≤ List.length (List.take 9 ys1)) ::
   (List.length (List.take 9 ys1) ≤ 100000) ::
   (at16 (List.take 9 ys1) 6 = 0 ∨ ofL (psd (17 : Int) (10 : Int) (0 : Int) (0 : Int) (IntKind.wrap IntKind.u8 host) (8 : Int) (8 : Int) (8 : Int) (8 : Int) (↑(at16 (List.take 9 ys1) 4) : Int) (List.take (at16 (List.take 9 ys1) 4) (List.take 9 ys1))) = 0) ::
   (((↑(at16 (List.take 9 ys1) 0) : Int) == (0 : Int)) = false) ::
   rp 4 (decide ((↑(at16 (List.take 9 ys1) 0) : Int) ≥ (1 : Int)) = true) (
   rp 3 ((!decide ((↑(at16 (List.take 9 ys1) 0) : Int) ≤ (65535 : Int))) = false) (
   rp 9 (decide ((↑(at16 (List.take 9 ys1) 0) : Int) ≥ (40000 : Int)) = false) (
   (0 ≤ 0) ::
   (9 ≤ List.length ys1) ::
   (0 + (at16 (List.take 9 ys1) 4 - 8) ≤ List.length (List.take (at16 (List.take 9 ys1) 4 - 8) (List.drop 8 (List.take 9 ys1)))) ::
   (byteP [(203 : Int), (0 : Int), (113 : Int), (7 : Int), (8 : Int), (8 : Int), (8 : Int), (8 : Int)]) ::
   ((0 : Int) ≤ (40000 : Int) ∧ (40000 : Int) ≤ (65535 : Int)) ::
   ((0 : Int) ≤ (↑(at16 (List.take 9 ys1) 2) : Int) ∧ (↑(at16 (List.take 9 ys1) 2) : Int) ≤ (65535 : Int)) ::
   (List.length (List.take (at16 (List.take 9 ys1) 4 - 8) (List.take (at16 (List.take 9 ys1) 4 - 8) (List.drop 8 (List.take 9 ys1)))) ≤ 1472) ::
   (0 ≤ 100000) ::
   (udpP (203 : Int) (0 : Int) (113 : Int) (7 : Int) (8 : Int) (8 : Int) (8 : Int) (8 : Int) (40000 : Int) (↑(at16 (List.take 9 ys1) 2) : Int) (List.take (at16 (List.take 9 ys1) 4 - 8) (List.take (at16 (List.take 9 ys1) 4 - 8) (List.drop 8 (List.take 9 ys1)))) = ys2) ::
   (0 ≤ 0) ::
   (0 + (8 + List.length (List.take (at16 (List.take 9 ys1) 4 - 8) (List.take (at16 (List.take 9 ys1) 4 - 8) (List.drop 8 (List.take 9 ys1))))) ≤ List.length ys2) ::
   ((17 : Int) = (17 : Int)) ::
   rp 2 ((0 : Int) = (0 : Int)) (
   (byteP [(203 : Int), (0 : Int), (113 : Int), (7 : Int), (8 : Int), (8 : Int), (8 : Int), (8 : Int)]) ::
   (8 ≤ at16 (List.take (8 + List.length (List.take (at16 (List.take 9 ys1) 4 - 8) (List.take (at16 (List.take 9 ys1) 4 - 8) (List.drop 8 (List.take 9 ys1))))) ys2) 4) ::
   (at16 (List.take (8 + List.length (List.take (at16 (List.take 9 ys1) 4 - 8) (List.take (at16 (List.take 9 ys1) 4 - 8) (List.drop 8 (List.take 9 ys1))))) ys2) 4 ≤ List.length (List.take (8 + List.length (List.take (at16 (List.take 9 ys1) 4 - 8) (List.take (at16 (List.take 9 ys1) 4 - 8) (List.drop 8 (List.take 9 ys1))))) ys2)) ::
   (List.length (List.take (8 + List.length (List.take (at16 (List.take 9 ys1) 4 - 8) (List.take (at16 (List.take 9 ys1) 4 - 8) (List.drop 8 (List.take 9 ys1))))) ys2) ≤ 100000) ::
   (at16 (List.take (8 + List.length (List.take (at16 (List.take 9 ys1) 4 - 8) (List.take (at16 (List.take 9 ys1) 4 - 8) (List.drop 8 (List.take 9 ys1))))) ys2) 6 = 0 ∨ ofL (psd (17 : Int) (203 : Int) (0 : Int) (113 : Int) (7 : Int) (8 : Int) (8 : Int) (8 : Int) (8 : Int) (↑(at16 (List.take (8 + List.length (List.take (at16 (List.take 9 ys1) 4 - 8) (List.take (at16 (List.take 9 ys1) 4 - 8) (List.drop 8 (List.take 9 ys1))))) ys2) 4) : Int) (List.take (at16 (List.take (8 + List.length (List.take (at16 (List.take 9 ys1) 4 - 8) (List.take (at16 (List.take 9 ys1) 4 - 8) (List.drop 8 (List.take 9 ys1))))) ys2) 4) (List.take (8 + List.length (List.take (at16 (List.take 9 ys1) 4 - 8) (List.take (at16 (List.take 9 ys1) 4 - 8) (List.drop 8 (List.take 9 ys1))))) ys2))) = 0) ::
   (4 ≤ 4) ::
   rp 2 (True) (
   (byteP [a0, a1, a2, a3, (203 : Int), (0 : Int), (113 : Int), (7 : Int)]) ::
   ((0 : Int) ≤ fp ∧ fp ≤ (65535 : Int)) ::
   ((0 : Int) ≤ (↑(at16 (List.take (8 + List.length (List.take (at16 (List.take 9 ys1) 4 - 8) (List.take (at16 (List.take 9 ys1) 4 - 8) (List.drop 8 (List.take 9 ys1))))) ys2) 0) : Int) ∧ (↑(at16 (List.take (8 + List.length (List.take (at16 (List.take 9 ys1) 4 - 8) (List.take (at16 (List.take 9 ys1) 4 - 8) (List.drop 8 (List.take 9 ys1))))) ys2) 0) : Int) ≤ (65535 : Int)) ::
   (List.length body ≤ 1472) ::
   (4 ≤ 100000) ::
   (udpP a0 a1 a2 a3 (203 : Int) (0 : Int) (113 : Int) (7 : Int) fp (↑(at16 (List.take (8 + List.length (List.take (at16 (List.take 9 ys1) 4 - 8) (List.take (at16 (List.take 9 ys1) 4 - 8) (List.drop 8 (List.take 9 ys1))))) ys2) 0) : Int) body = ys3) ::
   (4 ≤ 4) ::
   (0 + (8 + List.length body) ≤ List.length ys3) ::
   ((17 : Int) = (17 : Int)) ::
   rp 2 ((0 : Int) = (0 : Int)) (
   (byteP [a0, a1, a2, a3, (203 : Int), (0 : Int), (113 : Int), (7 : Int)]) ::
   (8 ≤ at16 (List.take (8 + List.length body) ys3) 4) ::
   (at16 (List.take (8 + List.length body) ys3) 4 ≤ List.length (List.take (8 + List.length body) ys3)) ::
   (List.length (List.take (8 + List.length body) ys3) ≤ 100000) ::
   (at16 (List.take (8 + List.length body) ys3) 6 = 0 ∨ ofL (psd (17 : Int) a0 a1 a2 a3 (203 : Int) (0 : Int) (113 : Int) (7 : Int) (↑(at16 (List.take (8 + List.length body) ys3) 4) : Int) (List.take (at16 (List.take (8 + List.length body) ys3) 4) (List.take (8 + List.length body) ys3))) = 0) ::
   rp 4 (((40000 : Int) == (↑(at16 (List.take (8 + List.length body) ys3) 2) : Int)) = true) (
   rp 4 (true = true) (
   (4 ≤ 4) ::
   (0 + (8 + List.length body) ≤ List.length ys3) ::
   (0 + (at16 (List.take (8 + List.length body) ys3) 4 - 8) ≤ List.length (List.take (at16 (List.take (8 + List.length body) ys3) 4 - 8) (List.drop 8 (List.take (8 + List.length body) ys3)))) ::
   (byteP [a0, a1, a2, a3, (10 : Int), (0 : Int), (0 : Int), IntKind.wrap IntKind.u8 host]) ::
   ((0 : Int) ≤ (↑(at16 (List.take (8 + List.length body) ys3) 0) : Int) ∧ (↑(at16 (List.take (8 + List.length body) ys3) 0) : Int) ≤ (65535 : Int)) ::
   ((0 : Int) ≤ (↑(at16 (List.take 9 ys1) 0) : Int) ∧ (↑(at16 (List.take 9 ys1) 0) : Int) ≤ (65535 : Int)) ::
   (List.length (List.take (at16 (List.take (8 + List.length body) ys3) 4 - 8) (List.take (at16 (List.take (8 + List.length body) ys3) 4 - 8) (List.drop 8 (List.take (8 + List.length body) ys3)))) ≤ 1472) ::
   (4 ≤ 100000) ::
   (udpP a0 a1 a2 a3 (10 : Int) (0 : Int) (0 : Int) (IntKind.wrap IntKind.u8 host) (↑(at16 (List.take (8 + List.length body) ys3) 0) : Int) (↑(at16 (List.take 9 ys1) 0) : Int) (List.take (at16 (List.take (8 + List.length body) ys3) 4 - 8) (List.take (at16 (List.take (8 + List.length body) ys3) 4 - 8) (List.drop 8 (List.take (8 + List.length body) ys3)))) = ys4) ::
   (4 ≤ 4) ::
   (0 + (8 + List.length (List.take (at16 (List.take (8 + List.length body) ys3) 4 - 8) (List.take (at16 (List.take (8 + List.length body) ys3) 4 - 8) (List.drop 8 (List.take (8 + List.length body) ys3))))) ≤ List.length ys4) ::
   ((17 : Int) = (17 : Int)) ::
   rp 2 ((0 : Int) = (0 : Int)) (
   (byteP [a0, a1, a2, a3, (10 : Int), (0 : Int), (0 : Int), IntKind.wrap IntKind.u8 host]) ::
   (8 ≤ at16 (List.take (8 + List.length (List.take (at16 (List.take (8 + List.length body) ys3) 4 - 8) (List.take (at16 (List.take (8 + List.length body) ys3) 4 - 8) (List.drop 8 (List.take (8 + List.length body) ys3))))) ys4) 4) ::
   (at16 (List.take (8 + List.length (List.take (at16 (List.take (8 + List.length body) ys3) 4 - 8) (List.take (at16 (List.take (8 + List.length body) ys3) 4 - 8) (List.drop 8 (List.take (8 + List.length body) ys3))))) ys4) 4 ≤ List.length (List.take (8 + List.length (List.take (at16 (List.take (8 + List.length body) ys3) 4 - 8) (List.take (at16 (List.take (8 + List.length body) ys3) 4 - 8) (List.drop 8 (List.take (8 + List.length body) ys3))))) ys4)) ::
   (List.length (List.take (8 + List.length (List.take (at16 (List.take (8 + List.length body) ys3) 4 - 8) (List.take (at16 (List.take (8 + List.length body) ys3) 4 - 8) (List.drop 8 (List.take (8 + List.length body) ys3))))) ys4) ≤ 100000) ::
   (at16 (List.take (8 + List.length (List.take (at16 (List.take (8 + List.length body) ys3) 4 - 8) (List.take (at16 (List.take (8 + List.length body) ys3) 4 - 8) (List.drop 8 (List.take (8 + List.length body) ys3))))) ys4) 6 = 0 ∨ ofL (psd (17 : Int) a0 a1 a2 a3 (10 : Int) (0 : Int) (0 : Int) (IntKind.wrap IntKind.u8 host) (↑(at16 (List.take (8 + List.length (List.take (at16 (List.take (8 + List.length body) ys3) 4 - 8) (List.take (at16 (List.take (8 + List.length body) ys3) 4 - 8) (List.drop 8 (List.take (8 + List.length body) ys3))))) ys4) 4) : Int) (List.take (at16 (List.take (8 + List.length (List.take (at16 (List.take (8 + List.length body) ys3) 4 - 8) (List.take (at16 (List.take (8 + List.length body) ys3) 4 - 8) (List.drop 8 (List.take (8 + List.length body) ys3))))) ys4) 4) (List.take (8 + List.length (List.take (at16 (List.take (8 + List.length body) ys3) 4 - 8) (List.take (at16 (List.take (8 + List.length body) ys3) 4 - 8) (List.drop 8 (List.take (8 + List.length body) ys3))))) ys4))) = 0) ::
   rp 5 ((true && (true && (true && (IntKind.wrap IntKind.u8 host == IntKind.wrap IntKind.u8 host && true)))) = true) (
   rp 5 (((↑(at16 (List.take (8 + List.length (List.take (at16 (List.take (8 + List.length body) ys3) 4 - 8) (List.take (at16 (List.take (8 + List.length body) ys3) 4 - 8) (List.drop 8 (List.take (8 + List.length body) ys3))))) ys4) 2) : Int) == port) = true) (
   rp 5 ((a0 == a0 && (a1 == a1 && (a2 == a2 && (a3 == a3 && true)))) = true) (
   rp 3 (((↑(at16 (List.take (8 + List.length (List.take (at16 (List.take (8 + List.length body) ys3) 4 - 8) (List.take (at16 (List.take (8 + List.length body) ys3) 4 - 8) (List.drop 8 (List.take (8 + List.length body) ys3))))) ys4) 0) : Int) == fp) = true) (
   (0 + (at16 (List.take (8 + List.length (List.take (at16 (List.take (8 + List.length body) ys3) 4 - 8) (List.take (at16 (List.take (8 + List.length body) ys3) 4 - 8) (List.drop 8 (List.take (8 + List.length body) ys3))))) ys4) 4 - 8) ≤ List.length (List.take (at16 (List.take (8 + List.length (List.take (at16 (List.take (8 + List.length body) ys3) 4 - 8) (List.take (at16 (List.take (8 + List.length body) ys3) 4 - 8) (List.drop 8 (List.take (8 + List.length body) ys3))))) ys4) 4 - 8) (List.drop 8 (List.take (8 + List.length (List.take (at16 (List.take (8 + List.length body) ys3) 4 - 8) (List.take (at16 (List.take (8 + List.length body) ys3) 4 - 8) (List.drop 8 (List.take (8 + List.length body) ys3))))) ys4)))) ::
   rp 4 (((↑(at16 (List.take (8 + List.length (List.take (at16 (List.take (8 + List.length body) ys3) 4 - 8) (List.take (at16 (List.take (8 + List.length body) ys3) 4 - 8) (List.drop 8 (List.take (8 + List.length body) ys3))))) ys4) 0) : Int) == fp) = true) (
   rp 4 ((ByteArray.toList { data := List.toArray (List.take (at16 (List.take (8 + List.length (List.take (at16 (List.take (8 + List.length body) ys3) 4 - 8) (List.take (at16 (List.take (8 + List.length body) ys3) 4 - 8) (List.drop 8 (List.take (8 + List.length body) ys3))))) ys4) 4 - 8) (List.take (at16 (List.take (8 + List.length (List.take (at16 (List.take (8 + List.length body) ys3) 4 - 8) (List.take (at16 (List.take (8 + List.length body) ys3) 4 - 8) (List.drop 8 (List.take (8 + List.length body) ys3))))) ys4) 4 - 8) (List.drop 8 (List.take (8 + List.length (List.take (at16 (List.take (8 + List.length body) ys3) 4 - 8) (List.take (at16 (List.take (8 + List.length body) ys3) 4 - 8) (List.drop 8 (List.take (8 + List.length body) ys3))))) ys4)))) } == ByteArray.toList { data := List.toArray body }) = true) ( [])))))))))))))))))))))) := by kernel_rfl

set_option maxRecDepth 100000 in
theorem natBack_hi (host : Int) (port : Int) (a0 : Int) (a1 : Int) (a2 : Int) (a3 : Int) (fp : Int) (body : List UInt8) (ys1 : List UInt8) (ys2 : List UInt8) (ys3 : List UInt8) (ys4 : List UInt8) : outT kU [(94, { op := [(1, 14, .br true)], gd := [(1, 11, true), (1, 12, true), (1, 13, true)] }),
   (93, { ob := [(4, 5)] }),
   (58, { ob := [(1, 1), (4, 7), (7, 12), (9, 2)] }),
   (25, { ob := [(1, 1), (5, 4)] }),
   (89, { ob := [(1, 2), (2, 4)] }),
   (81, { op := [(3, 12, .br false)], gd := [(3, 10, false), (3, 11, false)] }),
   (48, { br := [(23, false)], ob := [(1, 1), (10, 2)] }),
   (105, { op := [(1, 16, .br true)], gd := [(1, 8, true), (1, 9, true), (1, 10, true), (1, 11, true), (1, 12, true), (1, 13, true), (1, 14, true), (1, 15, true)] }),
   (8, { op := [(3, 5, .br false), (3, 9, .br false), (3, 13, .br false), (3, 18, .br false), (11, 30, .br true), (11, 36, .br true), (11, 42, .br true), (11, 50, .br true), (11, 55, .br true), (6, 5, .cut 192 (ys1)), (6, 7, .cut 518 (ys2)), (8, 9, .cut 548 (ys3)), (9, 3, .cut 905 (ys4))], gd := [(3, 3, false), (3, 4, false), (3, 7, false), (3, 8, false), (3, 11, false), (3, 12, false), (3, 15, false), (3, 16, false), (3, 17, false), (11, 26, true), (11, 27, true), (11, 28, true), (11, 29, true), (11, 32, true), (11, 33, true), (11, 34, true), (11, 35, true), (11, 38, true), (11, 39, true), (11, 40, true), (11, 41, true), (11, 44, true), (11, 45, true), (11, 46, true), (11, 47, true), (11, 48, true), (11, 49, true), (11, 52, true), (11, 53, true), (11, 54, true)], br := [(43, false)], ob := [(6, 7), (7, 1), (9, 3), (10, 1), (11, 46)] }),
   (35, { ob := [(1, 5), (1, 6)] }),
   (66, { ob := [(1, 6)] }),
   (97, { ob := [(1, 2)] }),
   (32, { ob := [(3, 1), (7, 3)] }),
   (64, { ob := [(1, 5)] }),
   (96, { op := [(1, 7, .br true)], gd := [(1, 4, true), (1, 5, true), (1, 6, true)] })] Try.prog 8 [AV.val (Value.int IntKind.i64 host), AV.val (Value.int IntKind.i64 port), AV.agg [AV.val (Value.int IntKind.u8 a0), AV.val (Value.int IntKind.u8 a1), AV.val (Value.int IntKind.u8 a2), AV.val (Value.int IntKind.u8 a3)], AV.val (Value.int IntKind.i64 fp), AV.bytes body] [] 0 =
   some (AV.val (Value.bool true), [], 1002,
   rp 3 (decide (port < (1 : Int)) = false) (
   rp 3 (decide (port > (65535 : Int)) = false) (
   rp 3 (decide (fp < (0 : Int)) = false) (
   rp 4 (decide (fp > (65535 : Int)) = false) (
   (decide ((↑(List.length body) : Int) > (1000 : Int)) = false) ::
   rp 2 (True) (
   (1 ≤ 1) ::
   (byteP [(10 : Int), (0 : Int), (0 : Int), IntKind.wrap IntKind.u8 host, (8 : Int), (8 : Int), (8 : Int), (8 : Int)]) ::
   ((0 : Int) ≤ port ∧ port ≤ (65535 : Int)) ::
   ((0 : Int) ≤ (53 : Int) ∧ (53 : Int) ≤ (65535 : Int)) ::
   (1 ≤ 1472) ::
   (0 ≤ 100000) ::
   (udpP (10 : Int) (0 : Int) (0 : Int) (IntKind.wrap IntKind.u8 host) (8 : Int) (8 : Int) (8 : Int) (8 : Int) port (53 : Int) [(120 : UInt8)] = ys1) ::
   (0 ≤ 0) ::
   (9 ≤ List.length ys1) ::
   ((17 : Int) = (17 : Int)) ::
   rp 2 ((0 : Int) = (0 : Int)) (
   (byteP [(10 : Int), (0 : Int), (0 : Int), IntKind.wrap IntKind.u8 host, (8 : Int), (8 : Int), (8 : Int), (8 : Int)]) ::
   (8 ≤ at16 (List.take 9 ys1) 4) ::
   (at16 (List.take 9 ys1) 4 ≤ List.length (List.take 9 ys1)) ::
   (List.length (List.take 9 ys1) ≤ 100000) ::
   (at16 (List.take 9 ys1) 6 = 0 ∨ ofL (psd (17 : Int) (10 : Int) (0 : Int) (0 : Int) (IntKind.wrap IntKind.u8 host) (8 : Int) (8 : Int) (8 : Int) (8 : Int) (↑(at16 (List.take 9 ys1) 4) : Int) (List.take (at16 (List.take 9 ys1) 4) (List.take 9 ys1))) = 0) ::
   (((↑(at16 (List.take 9 ys1) 0) : Int) == (0 : Int)) = false) ::
   rp 4 (decide ((↑(at16 (List.take 9 ys1) 0) : Int) ≥ (1 : Int)) = true) (
   rp 3 ((!decide ((↑(at16 (List.take 9 ys1) 0) : Int) ≤ (65535 : Int))) = false) (
   rp 9 (decide ((↑(at16 (List.take 9 ys1) 0) : Int) ≥ (40000 : Int)) = true) (
   (0 ≤ 0) ::
   (9 ≤ List.length ys1) ::
   (0 + (at16 (List.take 9 ys1) 4 - 8) ≤ List.length (List.take (at16 (List.take 9 ys1) 4 - 8) (List.drop 8 (List.take 9 ys1)))) ::
   (byteP [(203 : Int), (0 : Int), (113 : Int), (7 : Int), (8 : Int), (8 : Int), (8 : Int), (8 : Int)]) ::
   ((0 : Int) ≤ (↑(at16 (List.take 9 ys1) 0) : Int) ∧ (↑(at16 (List.take 9 ys1) 0) : Int) ≤ (65535 : Int)) ::
   ((0 : Int) ≤ (↑(at16 (List.take 9 ys1) 2) : Int) ∧ (↑(at16 (List.take 9 ys1) 2) : Int) ≤ (65535 : Int)) ::
   (List.length (List.take (at16 (List.take 9 ys1) 4 - 8) (List.take (at16 (List.take 9 ys1) 4 - 8) (List.drop 8 (List.take 9 ys1)))) ≤ 1472) ::
   (0 ≤ 100000) ::
   (udpP (203 : Int) (0 : Int) (113 : Int) (7 : Int) (8 : Int) (8 : Int) (8 : Int) (8 : Int) (↑(at16 (List.take 9 ys1) 0) : Int) (↑(at16 (List.take 9 ys1) 2) : Int) (List.take (at16 (List.take 9 ys1) 4 - 8) (List.take (at16 (List.take 9 ys1) 4 - 8) (List.drop 8 (List.take 9 ys1)))) = ys2) ::
   (0 ≤ 0) ::
   (0 + (8 + List.length (List.take (at16 (List.take 9 ys1) 4 - 8) (List.take (at16 (List.take 9 ys1) 4 - 8) (List.drop 8 (List.take 9 ys1))))) ≤ List.length ys2) ::
   ((17 : Int) = (17 : Int)) ::
   rp 2 ((0 : Int) = (0 : Int)) (
   (byteP [(203 : Int), (0 : Int), (113 : Int), (7 : Int), (8 : Int), (8 : Int), (8 : Int), (8 : Int)]) ::
   (8 ≤ at16 (List.take (8 + List.length (List.take (at16 (List.take 9 ys1) 4 - 8) (List.take (at16 (List.take 9 ys1) 4 - 8) (List.drop 8 (List.take 9 ys1))))) ys2) 4) ::
   (at16 (List.take (8 + List.length (List.take (at16 (List.take 9 ys1) 4 - 8) (List.take (at16 (List.take 9 ys1) 4 - 8) (List.drop 8 (List.take 9 ys1))))) ys2) 4 ≤ List.length (List.take (8 + List.length (List.take (at16 (List.take 9 ys1) 4 - 8) (List.take (at16 (List.take 9 ys1) 4 - 8) (List.drop 8 (List.take 9 ys1))))) ys2)) ::
   (List.length (List.take (8 + List.length (List.take (at16 (List.take 9 ys1) 4 - 8) (List.take (at16 (List.take 9 ys1) 4 - 8) (List.drop 8 (List.take 9 ys1))))) ys2) ≤ 100000) ::
   (at16 (List.take (8 + List.length (List.take (at16 (List.take 9 ys1) 4 - 8) (List.take (at16 (List.take 9 ys1) 4 - 8) (List.drop 8 (List.take 9 ys1))))) ys2) 6 = 0 ∨ ofL (psd (17 : Int) (203 : Int) (0 : Int) (113 : Int) (7 : Int) (8 : Int) (8 : Int) (8 : Int) (8 : Int) (↑(at16 (List.take (8 + List.length (List.take (at16 (List.take 9 ys1) 4 - 8) (List.take (at16 (List.take 9 ys1) 4 - 8) (List.drop 8 (List.take 9 ys1))))) ys2) 4) : Int) (List.take (at16 (List.take (8 + List.length (List.take (at16 (List.take 9 ys1) 4 - 8) (List.take (at16 (List.take 9 ys1) 4 - 8) (List.drop 8 (List.take 9 ys1))))) ys2) 4) (List.take (8 + List.length (List.take (at16 (List.take 9 ys1) 4 - 8) (List.take (at16 (List.take 9 ys1) 4 - 8) (List.drop 8 (List.take 9 ys1))))) ys2))) = 0) ::
   (4 ≤ 4) ::
   rp 2 (True) (
   (byteP [a0, a1, a2, a3, (203 : Int), (0 : Int), (113 : Int), (7 : Int)]) ::
   ((0 : Int) ≤ fp ∧ fp ≤ (65535 : Int)) ::
   ((0 : Int) ≤ (↑(at16 (List.take (8 + List.length (List.take (at16 (List.take 9 ys1) 4 - 8) (List.take (at16 (List.take 9 ys1) 4 - 8) (List.drop 8 (List.take 9 ys1))))) ys2) 0) : Int) ∧ (↑(at16 (List.take (8 + List.length (List.take (at16 (List.take 9 ys1) 4 - 8) (List.take (at16 (List.take 9 ys1) 4 - 8) (List.drop 8 (List.take 9 ys1))))) ys2) 0) : Int) ≤ (65535 : Int)) ::
   (List.length body ≤ 1472) ::
   (4 ≤ 100000) ::
   (udpP a0 a1 a2 a3 (203 : Int) (0 : Int) (113 : Int) (7 : Int) fp (↑(at16 (List.take (8 + List.length (List.take (at16 (List.take 9 ys1) 4 - 8) (List.take (at16 (List.take 9 ys1) 4 - 8) (List.drop 8 (List.take 9 ys1))))) ys2) 0) : Int) body = ys3) ::
   (4 ≤ 4) ::
   (0 + (8 + List.length body) ≤ List.length ys3) ::
   ((17 : Int) = (17 : Int)) ::
   rp 2 ((0 : Int) = (0 : Int)) (
   (byteP [a0, a1, a2, a3, (203 : Int), (0 : Int), (113 : Int), (7 : Int)]) ::
   (8 ≤ at16 (List.take (8 + List.length body) ys3) 4) ::
   (at16 (List.take (8 + List.length body) ys3) 4 ≤ List.length (List.take (8 + List.length body) ys3)) ::
   (List.length (List.take (8 + List.length body) ys3) ≤ 100000) ::
   (at16 (List.take (8 + List.length body) ys3) 6 = 0 ∨ ofL (psd (17 : Int) a0 a1 a2 a3 (203 : Int) (0 : Int) (113 : Int) (7 : Int) (↑(at16 (List.take (8 + List.length body) ys3) 4) : Int) (List.take (at16 (List.take (8 + List.length body) ys3) 4) (List.take (8 + List.length body) ys3))) = 0) ::
   rp 4 (((↑(at16 (List.take 9 ys1) 0) : Int) == (↑(at16 (List.take (8 + List.length body) ys3) 2) : Int)) = true) (
   rp 4 (((↑(at16 (List.take 9 ys1) 0) : Int) == (↑(at16 (List.take 9 ys1) 0) : Int)) = true) (
   (4 ≤ 4) ::
   (0 + (8 + List.length body) ≤ List.length ys3) ::
   (0 + (at16 (List.take (8 + List.length body) ys3) 4 - 8) ≤ List.length (List.take (at16 (List.take (8 + List.length body) ys3) 4 - 8) (List.drop 8 (List.take (8 + List.length body) ys3)))) ::
   (byteP [a0, a1, a2, a3, (10 : Int), (0 : Int), (0 : Int), IntKind.wrap IntKind.u8 host]) ::
   ((0 : Int) ≤ (↑(at16 (List.take (8 + List.length body) ys3) 0) : Int) ∧ (↑(at16 (List.take (8 + List.length body) ys3) 0) : Int) ≤ (65535 : Int)) ::
   ((0 : Int) ≤ (↑(at16 (List.take 9 ys1) 0) : Int) ∧ (↑(at16 (List.take 9 ys1) 0) : Int) ≤ (65535 : Int)) ::
   (List.length (List.take (at16 (List.take (8 + List.length body) ys3) 4 - 8) (List.take (at16 (List.take (8 + List.length body) ys3) 4 - 8) (List.drop 8 (List.take (8 + List.length body) ys3)))) ≤ 1472) ::
   (4 ≤ 100000) ::
   (udpP a0 a1 a2 a3 (10 : Int) (0 : Int) (0 : Int) (IntKind.wrap IntKind.u8 host) (↑(at16 (List.take (8 + List.length body) ys3) 0) : Int) (↑(at16 (List.take 9 ys1) 0) : Int) (List.take (at16 (List.take (8 + List.length body) ys3) 4 - 8) (List.take (at16 (List.take (8 + List.length body) ys3) 4 - 8) (List.drop 8 (List.take (8 + List.length body) ys3)))) = ys4) ::
   (4 ≤ 4) ::
   (0 + (8 + List.length (List.take (at16 (List.take (8 + List.length body) ys3) 4 - 8) (List.take (at16 (List.take (8 + List.length body) ys3) 4 - 8) (List.drop 8 (List.take (8 + List.length body) ys3))))) ≤ List.length ys4) ::
   ((17 : Int) = (17 : Int)) ::
   rp 2 ((0 : Int) = (0 : Int)) (
   (byteP [a0, a1, a2, a3, (10 : Int), (0 : Int), (0 : Int), IntKind.wrap IntKind.u8 host]) ::
   (8 ≤ at16 (List.take (8 + List.length (List.take (at16 (List.take (8 + List.length body) ys3) 4 - 8) (List.take (at16 (List.take (8 + List.length body) ys3) 4 - 8) (List.drop 8 (List.take (8 + List.length body) ys3))))) ys4) 4) ::
   (at16 (List.take (8 + List.length (List.take (at16 (List.take (8 + List.length body) ys3) 4 - 8) (List.take (at16 (List.take (8 + List.length body) ys3) 4 - 8) (List.drop 8 (List.take (8 + List.length body) ys3))))) ys4) 4 ≤ List.length (List.take (8 + List.length (List.take (at16 (List.take (8 + List.length body) ys3) 4 - 8) (List.take (at16 (List.take (8 + List.length body) ys3) 4 - 8) (List.drop 8 (List.take (8 + List.length body) ys3))))) ys4)) ::
   (List.length (List.take (8 + List.length (List.take (at16 (List.take (8 + List.length body) ys3) 4 - 8) (List.take (at16 (List.take (8 + List.length body) ys3) 4 - 8) (List.drop 8 (List.take (8 + List.length body) ys3))))) ys4) ≤ 100000) ::
   (at16 (List.take (8 + List.length (List.take (at16 (List.take (8 + List.length body) ys3) 4 - 8) (List.take (at16 (List.take (8 + List.length body) ys3) 4 - 8) (List.drop 8 (List.take (8 + List.length body) ys3))))) ys4) 6 = 0 ∨ ofL (psd (17 : Int) a0 a1 a2 a3 (10 : Int) (0 : Int) (0 : Int) (IntKind.wrap IntKind.u8 host) (↑(at16 (List.take (8 + List.length (List.take (at16 (List.take (8 + List.length body) ys3) 4 - 8) (List.take (at16 (List.take (8 + List.length body) ys3) 4 - 8) (List.drop 8 (List.take (8 + List.length body) ys3))))) ys4) 4) : Int) (List.take (at16 (List.take (8 + List.length (List.take (at16 (List.take (8 + List.length body) ys3) 4 - 8) (List.take (at16 (List.take (8 + List.length body) ys3) 4 - 8) (List.drop 8 (List.take (8 + List.length body) ys3))))) ys4) 4) (List.take (8 + List.length (List.take (at16 (List.take (8 + List.length body) ys3) 4 - 8) (List.take (at16 (List.take (8 + List.length body) ys3) 4 - 8) (List.drop 8 (List.take (8 + List.length body) ys3))))) ys4))) = 0) ::
   rp 5 ((true && (true && (true && (IntKind.wrap IntKind.u8 host == IntKind.wrap IntKind.u8 host && true)))) = true) (
   rp 5 (((↑(at16 (List.take (8 + List.length (List.take (at16 (List.take (8 + List.length body) ys3) 4 - 8) (List.take (at16 (List.take (8 + List.length body) ys3) 4 - 8) (List.drop 8 (List.take (8 + List.length body) ys3))))) ys4) 2) : Int) == port) = true) (
   rp 5 ((a0 == a0 && (a1 == a1 && (a2 == a2 && (a3 == a3 && true)))) = true) (
   rp 3 (((↑(at16 (List.take (8 + List.length (List.take (at16 (List.take (8 + List.length body) ys3) 4 - 8) (List.take (at16 (List.take (8 + List.length body) ys3) 4 - 8) (List.drop 8 (List.take (8 + List.length body) ys3))))) ys4) 0) : Int) == fp) = true) (
   (0 + (at16 (List.take (8 + List.length (List.take (at16 (List.take (8 + List.length body) ys3) 4 - 8) (List.take (at16 (List.take (8 + List.length body) ys3) 4 - 8) (List.drop 8 (List.take (8 + List.length body) ys3))))) ys4) 4 - 8) ≤ List.length (List.take (at16 (List.take (8 + List.length (List.take (at16 (List.take (8 + List.length body) ys3) 4 - 8) (List.take (at16 (List.take (8 + List.length body) ys3) 4 - 8) (List.drop 8 (List.take (8 + List.length body) ys3))))) ys4) 4 - 8) (List.drop 8 (List.take (8 + List.length (List.take (at16 (List.take (8 + List.length body) ys3) 4 - 8) (List.take (at16 (List.take (8 + List.length body) ys3) 4 - 8) (List.drop 8 (List.take (8 + List.length body) ys3))))) ys4)))) ::
   rp 4 (((↑(at16 (List.take (8 + List.length (List.take (at16 (List.take (8 + List.length body) ys3) 4 - 8) (List.take (at16 (List.take (8 + List.length body) ys3) 4 - 8) (List.drop 8 (List.take (8 + List.length body) ys3))))) ys4) 0) : Int) == fp) = true) (
   rp 4 ((ByteArray.toList { data := List.toArray (List.take (at16 (List.take (8 + List.length (List.take (at16 (List.take (8 + List.length body) ys3) 4 - 8) (List.take (at16 (List.take (8 + List.length body) ys3) 4 - 8) (List.drop 8 (List.take (8 + List.length body) ys3))))) ys4) 4 - 8) (List.take (at16 (List.take (8 + List.length (List.take (at16 (List.take (8 + List.length body) ys3) 4 - 8) (List.take (at16 (List.take (8 + List.length body) ys3) 4 - 8) (List.drop 8 (List.take (8 + List.length body) ys3))))) ys4) 4 - 8) (List.drop 8 (List.take (8 + List.length (List.take (at16 (List.take (8 + List.length body) ys3) 4 - 8) (List.take (at16 (List.take (8 + List.length body) ys3) 4 - 8) (List.drop 8 (List.take (8 + List.length body) ys3))))) ys4)))) } == ByteArray.toList { data := List.toArray body }) = true) ( [])))))))))))))))))))))) := by kernel_rfl
end Go.Proofs.Ytecmagdefllihaa
