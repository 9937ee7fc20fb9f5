/- Several texts in one: Tdp, TdRun8, TdRun9. -/
import Derived.Test.YtbpofglponmpnaaGreatDoorMtdo

/- More objects that TopDead meets and leaves as they were. -/
namespace Go.Proofs.YtbpofglponmpnaaGreatDoor
open Go.RowKit

def tdO79 (v : Int) (p : Int) (q : Int) (secs : Int) (s2 : Int) : AObj := { t := 5, sz := 1, exact := false, fz := false, body := Body.bytes [69, 0, 0, 40, 0, 0, 0, 0, 64, 17, UInt8.ofNat (Int.toNat (IntKind.wrap IntKind.u8 (Int.fdiv s2 (256 : Int)))), UInt8.ofNat (Int.toNat (IntKind.wrap IntKind.u8 s2)), 192, 168, 1, 77, 192, 168, 1, 1, 19, 136, 20, 231, 0, 20, 255, 255, 0, UInt8.ofNat (Int.toNat (IntKind.wrap IntKind.u8 (IntKind.wrap IntKind.i64 ((1 : Int) + bits BinOp.and IntKind.i64 v (1 : Int))))), 0, 0, UInt8.ofNat (Int.toNat (IntKind.wrap IntKind.u8 (Int.fdiv p (256 : Int)))), UInt8.ofNat (Int.toNat (IntKind.wrap IntKind.u8 p)), UInt8.ofNat (Int.toNat (IntKind.wrap IntKind.u8 (Int.fdiv q (256 : Int)))), UInt8.ofNat (Int.toNat (IntKind.wrap IntKind.u8 q)), UInt8.ofNat (Int.toNat (IntKind.wrap IntKind.u8 (Int.fdiv (IntKind.wrap IntKind.i64 (Int.fdiv secs (65536 : Int))) (256 : Int)))), UInt8.ofNat (Int.toNat (IntKind.wrap IntKind.u8 (IntKind.wrap IntKind.i64 (Int.fdiv secs (65536 : Int))))), UInt8.ofNat (Int.toNat (IntKind.wrap IntKind.u8 (Int.fdiv (IntKind.wrap IntKind.i64 (bits BinOp.and IntKind.u32 secs (65535 : Int))) (256 : Int)))), UInt8.ofNat (Int.toNat (IntKind.wrap IntKind.u8 (IntKind.wrap IntKind.i64 (bits BinOp.and IntKind.u32 secs (65535 : Int)))))] }
def tdO80 : AObj := { t := 210, sz := 14, exact := true, fz := false, body := Body.rows [[AV.val (Value.int IntKind.u8 2), AV.val (Value.int IntKind.u8 0), AV.val (Value.int IntKind.u8 0), AV.val (Value.int IntKind.u8 0), AV.val (Value.int IntKind.u8 0), AV.val (Value.int IntKind.u8 1), AV.val (Value.int IntKind.u8 2), AV.val (Value.int IntKind.u8 1), AV.val (Value.int IntKind.u8 0), AV.val (Value.int IntKind.u8 0), AV.val (Value.int IntKind.u8 0), AV.val (Value.int IntKind.u8 5), AV.val (Value.int IntKind.i64 2048), AV.sl 117723 0 40 none]] }
def tdO81 (v : Int) (p : Int) (q : Int) (secs : Int) : AObj := { t := 5, sz := 1, exact := false, fz := false, body := Body.bytes [19, 136, 20, 231, 0, 20, 255, 255, 0, UInt8.ofNat (Int.toNat (IntKind.wrap IntKind.u8 (IntKind.wrap IntKind.i64 ((1 : Int) + bits BinOp.and IntKind.i64 v (1 : Int))))), 0, 0, UInt8.ofNat (Int.toNat (IntKind.wrap IntKind.u8 (Int.fdiv p (256 : Int)))), UInt8.ofNat (Int.toNat (IntKind.wrap IntKind.u8 p)), UInt8.ofNat (Int.toNat (IntKind.wrap IntKind.u8 (Int.fdiv q (256 : Int)))), UInt8.ofNat (Int.toNat (IntKind.wrap IntKind.u8 q)), UInt8.ofNat (Int.toNat (IntKind.wrap IntKind.u8 (Int.fdiv (IntKind.wrap IntKind.i64 (Int.fdiv secs (65536 : Int))) (256 : Int)))), UInt8.ofNat (Int.toNat (IntKind.wrap IntKind.u8 (IntKind.wrap IntKind.i64 (Int.fdiv secs (65536 : Int))))), UInt8.ofNat (Int.toNat (IntKind.wrap IntKind.u8 (Int.fdiv (IntKind.wrap IntKind.i64 (bits BinOp.and IntKind.u32 secs (65535 : Int))) (256 : Int)))), UInt8.ofNat (Int.toNat (IntKind.wrap IntKind.u8 (IntKind.wrap IntKind.i64 (bits BinOp.and IntKind.u32 secs (65535 : Int)))))] }
def tdO82 : AObj := { t := 23, sz := 1, exact := true, fz := false, body := Body.rows [[AV.sl 119927 0 12 none], [AV.sl 119385 0 20 none]] }
def tdO83 (v : Int) (p : Int) (q : Int) (secs : Int) (s2 : Int) : AObj := { t := 5, sz := 1, exact := false, fz := false, body := Body.bytes [2, 0, 0, 0, 0, 1, 2, 1, 0, 0, 0, 5, 8, 0, 69, 0, 0, 40, 0, 0, 0, 0, 64, 17, UInt8.ofNat (Int.toNat (IntKind.wrap IntKind.u8 (Int.fdiv s2 (256 : Int)))), UInt8.ofNat (Int.toNat (IntKind.wrap IntKind.u8 s2)), 192, 168, 1, 77, 192, 168, 1, 1, 19, 136, 20, 231, 0, 20, 255, 255, 0, UInt8.ofNat (Int.toNat (IntKind.wrap IntKind.u8 (IntKind.wrap IntKind.i64 ((1 : Int) + bits BinOp.and IntKind.i64 v (1 : Int))))), 0, 0, UInt8.ofNat (Int.toNat (IntKind.wrap IntKind.u8 (Int.fdiv p (256 : Int)))), UInt8.ofNat (Int.toNat (IntKind.wrap IntKind.u8 p)), UInt8.ofNat (Int.toNat (IntKind.wrap IntKind.u8 (Int.fdiv q (256 : Int)))), UInt8.ofNat (Int.toNat (IntKind.wrap IntKind.u8 q)), UInt8.ofNat (Int.toNat (IntKind.wrap IntKind.u8 (Int.fdiv (IntKind.wrap IntKind.i64 (Int.fdiv secs (65536 : Int))) (256 : Int)))), UInt8.ofNat (Int.toNat (IntKind.wrap IntKind.u8 (IntKind.wrap IntKind.i64 (Int.fdiv secs (65536 : Int))))), UInt8.ofNat (Int.toNat (IntKind.wrap IntKind.u8 (Int.fdiv (IntKind.wrap IntKind.i64 (bits BinOp.and IntKind.u32 secs (65535 : Int))) (256 : Int)))), UInt8.ofNat (Int.toNat (IntKind.wrap IntKind.u8 (IntKind.wrap IntKind.i64 (bits BinOp.and IntKind.u32 secs (65535 : Int)))))] }
def tdO84 (p : Int) : AObj := { t := 5, sz := 1, exact := false, fz := false, body := Body.bytes [UInt8.ofNat (Int.toNat (IntKind.wrap IntKind.u8 (Int.fdiv (bits BinOp.and IntKind.i64 p (65535 : Int)) (256 : Int)))), UInt8.ofNat (Int.toNat (IntKind.wrap IntKind.u8 (bits BinOp.and IntKind.i64 p (65535 : Int))))] }
def tdO85 (p : Int) : AObj := { t := 5, sz := 1, exact := false, fz := false, body := Body.bytes [UInt8.ofNat (Int.toNat (IntKind.wrap IntKind.u8 (Int.fdiv (bits BinOp.and IntKind.i64 p (65535 : Int)) (256 : Int)))), UInt8.ofNat (Int.toNat (IntKind.wrap IntKind.u8 (bits BinOp.and IntKind.i64 p (65535 : Int)))), 0, 80] }
def tdO86 (p : Int) : AObj := { t := 5, sz := 1, exact := false, fz := false, body := Body.bytes [UInt8.ofNat (Int.toNat (IntKind.wrap IntKind.u8 (Int.fdiv (bits BinOp.and IntKind.i64 p (65535 : Int)) (256 : Int)))), UInt8.ofNat (Int.toNat (IntKind.wrap IntKind.u8 (bits BinOp.and IntKind.i64 p (65535 : Int)))), 0, 80, 0, 0, 0, 0] }
def tdO87 (v : Int) : AObj := { t := 41, sz := 16, exact := true, fz := false, body := Body.rows [[AV.val (Value.int IntKind.i64 0), AV.val (Value.int IntKind.i64 0), AV.val (Value.int IntKind.i64 0), AV.val (Value.int IntKind.i64 0), AV.val (Value.int IntKind.i64 64), AV.val (Value.int IntKind.i64 6), AV.val (Value.int IntKind.u8 192), AV.val (Value.int IntKind.u8 168), AV.val (Value.int IntKind.u8 1), AV.val (Value.int IntKind.u8 77), AV.val (Value.int IntKind.u8 8), AV.val (Value.int IntKind.u8 8), AV.val (Value.int IntKind.u8 4), AV.val (Value.int IntKind.u8 (IntKind.wrap IntKind.u8 v)), AV.val (Value.slice none 0 0), AV.val (Value.slice none 0 0)]] }
def tdO88 (v : Int) (p : Int) (q : Int) (s1 : Int) (s2 : Int) : AObj := { t := 5, sz := 1, exact := false, fz := false, body := Body.bytes [69, 0, 0, 40, 0, 0, 0, 0, 64, 6, UInt8.ofNat (Int.toNat (IntKind.wrap IntKind.u8 (Int.fdiv s2 (256 : Int)))), UInt8.ofNat (Int.toNat (IntKind.wrap IntKind.u8 s2)), 192, 168, 1, 77, 8, 8, 4, UInt8.ofNat (Int.toNat (IntKind.wrap IntKind.u8 v)), UInt8.ofNat (Int.toNat (IntKind.wrap IntKind.u8 (Int.fdiv (bits BinOp.and IntKind.i64 p (65535 : Int)) (256 : Int)))), UInt8.ofNat (Int.toNat (IntKind.wrap IntKind.u8 (bits BinOp.and IntKind.i64 p (65535 : Int)))), 0, 80, 0, 0, 0, 0, 0, 0, 0, 0, 80, UInt8.ofNat (Int.toNat (IntKind.wrap IntKind.u8 (bits BinOp.and IntKind.i64 q (63 : Int)))), 0, 0, UInt8.ofNat (Int.toNat (IntKind.wrap IntKind.u8 (Int.fdiv s1 (256 : Int)))), UInt8.ofNat (Int.toNat (IntKind.wrap IntKind.u8 s1)), 0, 0] }
def tdO89 : AObj := { t := 210, sz := 14, exact := true, fz := false, body := Body.rows [[AV.val (Value.int IntKind.u8 2), AV.val (Value.int IntKind.u8 0), AV.val (Value.int IntKind.u8 0), AV.val (Value.int IntKind.u8 0), AV.val (Value.int IntKind.u8 0), AV.val (Value.int IntKind.u8 1), AV.val (Value.int IntKind.u8 2), AV.val (Value.int IntKind.u8 1), AV.val (Value.int IntKind.u8 0), AV.val (Value.int IntKind.u8 0), AV.val (Value.int IntKind.u8 0), AV.val (Value.int IntKind.u8 5), AV.val (Value.int IntKind.i64 2048), AV.sl 117799 0 40 none]] }
def tdO90 (p : Int) (q : Int) (s1 : Int) : AObj := { t := 5, sz := 1, exact := false, fz := false, body := Body.bytes [UInt8.ofNat (Int.toNat (IntKind.wrap IntKind.u8 (Int.fdiv (bits BinOp.and IntKind.i64 p (65535 : Int)) (256 : Int)))), UInt8.ofNat (Int.toNat (IntKind.wrap IntKind.u8 (bits BinOp.and IntKind.i64 p (65535 : Int)))), 0, 80, 0, 0, 0, 0, 0, 0, 0, 0, 80, UInt8.ofNat (Int.toNat (IntKind.wrap IntKind.u8 (bits BinOp.and IntKind.i64 q (63 : Int)))), 0, 0, UInt8.ofNat (Int.toNat (IntKind.wrap IntKind.u8 (Int.fdiv s1 (256 : Int)))), UInt8.ofNat (Int.toNat (IntKind.wrap IntKind.u8 s1)), 0, 0] }
def tdO91 (v : Int) (p : Int) (q : Int) (s1 : Int) (s2 : Int) : AObj := { t := 5, sz := 1, exact := false, fz := false, body := Body.bytes [2, 0, 0, 0, 0, 1, 2, 1, 0, 0, 0, 5, 8, 0, 69, 0, 0, 40, 0, 0, 0, 0, 64, 6, UInt8.ofNat (Int.toNat (IntKind.wrap IntKind.u8 (Int.fdiv s2 (256 : Int)))), UInt8.ofNat (Int.toNat (IntKind.wrap IntKind.u8 s2)), 192, 168, 1, 77, 8, 8, 4, UInt8.ofNat (Int.toNat (IntKind.wrap IntKind.u8 v)), UInt8.ofNat (Int.toNat (IntKind.wrap IntKind.u8 (Int.fdiv (bits BinOp.and IntKind.i64 p (65535 : Int)) (256 : Int)))), UInt8.ofNat (Int.toNat (IntKind.wrap IntKind.u8 (bits BinOp.and IntKind.i64 p (65535 : Int)))), 0, 80, 0, 0, 0, 0, 0, 0, 0, 0, 80, UInt8.ofNat (Int.toNat (IntKind.wrap IntKind.u8 (bits BinOp.and IntKind.i64 q (63 : Int)))), 0, 0, UInt8.ofNat (Int.toNat (IntKind.wrap IntKind.u8 (Int.fdiv s1 (256 : Int)))), UInt8.ofNat (Int.toNat (IntKind.wrap IntKind.u8 s1)), 0, 0] }
end Go.Proofs.YtbpofglponmpnaaGreatDoor

/- TopDead, reckoned on some of its ways. (Printed by wip/sym/dead.py and foldo.py.) -/
namespace Go.Proofs.YtbpofglponmpnaaGreatDoor
open Go.RowKit

set_option maxRecDepth 100000 in
theorem topDead_4_z_ok67 (n : Int) (v : Int) (p : Int) (q : Int) (draw : Int) (secs : Int) (b : List UInt8) (s1 : Int) (s2 : Int) : outT (kDead s1 s2) [(63, { op := [(1, 8, .keep)], ob := [(1, 8)] }),
   (285, { br := [(39, false)], ob := [(9, 3)] }),
   (189, { op := [(3, 21, .br false), (3, 22, .br true)], gd := [(3, 8, true), (3, 9, true), (3, 10, true), (3, 11, true), (3, 12, true), (3, 13, true), (3, 14, true), (3, 15, true), (3, 16, true), (3, 17, false), (3, 18, false), (3, 19, false), (3, 20, false), (3, 21, true)], br := [(38, false)], ob := [(2, 1)] }),
   (188, { ob := [(1, 1), (4, 3), (5, 1), (6, 1), (7, 1), (8, 1), (9, 1), (11, 1), (11, 3), (12, 1), (13, 1), (14, 1), (15, 3), (16, 2), (16, 3)] }),
   (57, { ob := [(1, 1), (4, 4)] }),
   (278, { op := [(1, 2, .keep)], ob := [(1, 2), (1, 5), (2, 7)] }),
   (179, { ob := [(2, 2)] }),
   (81, { op := [(5, 2, .keep)], ob := [(5, 2)] }),
   (16, { ob := [(1, 1), (8, 3)] }),
   (15, { op := [(24, 13, .keep)], ob := [(24, 13)] }),
   (173, { ob := [(1, 6)] }),
   (77, { ob := [(1, 2), (5, 3)] }),
   (73, { ob := [(5, 1), (6, 1), (6, 3), (6, 5), (7, 2), (7, 3)] }),
   (71, { ob := [(12, 3), (14, 1), (15, 8), (15, 10)] }),
   (327, { ob := [(1, 6), (2, 7)] }),
   (326, { ob := [(7, 1)] }),
   (6, { op := [(7, 15, .keep)], ob := [(7, 15)] }),
   (3, { br := [(10, false)] }),
   (66, { ob := [(1, 8)] }),
   (162, { op := [(1, 9, .br false), (6, 5, .keep)], gd := [(1, 5, false), (1, 6, false), (1, 7, false), (1, 8, false)], br := [(17, false), (47, true)], ob := [(6, 5), (7, 5), (9, 2)] }),
   (288, { op := [(16, 5, .keep), (16, 11, .keep)], br := [(48, false)], ob := [(3, 1), (7, 2), (8, 1), (9, 1), (10, 1), (11, 1), (16, 5), (16, 11), (18, 3)] })] Tryz.prog 3 [AV.agg [AV.val (Value.int IntKind.i64 4), AV.val (Value.int IntKind.i64 n), AV.val (Value.int IntKind.i64 v), AV.val (Value.int IntKind.i64 p), AV.val (Value.int IntKind.i64 q), AV.val (Value.int IntKind.u32 draw), AV.val (Value.int IntKind.u32 secs), AV.bytes b]] [] 0 =
   some (AV.val (Value.bool true), [], 120800,
   (decide ((↑(List.length b) : Int) > (1600 : Int)) = false) ::
   rp 5 ((!(decide ((0 : Int) ≤ p) && decide (p ≤ (65535 : Int)))) = false) (
   ((!(decide ((0 : Int) ≤ q) && decide (q ≤ (65535 : Int)))) = false) ::
   (∀ (x : AV), x ∈ [AV.val (Value.int IntKind.u8 (IntKind.wrap IntKind.u8 (Int.fdiv p (256 : Int)))), AV.val (Value.int IntKind.u8 (IntKind.wrap IntKind.u8 p))] → isByteAV x) ::
   (∀ (x : AV), x ∈ [AV.val (Value.int IntKind.u8 (IntKind.wrap IntKind.u8 (Int.fdiv q (256 : Int)))), AV.val (Value.int IntKind.u8 (IntKind.wrap IntKind.u8 q))] → isByteAV x) ::
   (SameO (some (tdO0 p)) (tdO0 p)) ::
   (∀ (x : AV), x ∈ [AV.val (Value.int IntKind.u8 0), AV.val (Value.int IntKind.u8 12)] → isByteAV x) ::
   (SameO (some (tdO1 v)) (tdO1 v)) ::
   (14 ≤ 16 ∧ 16 ≤ 16 ∧ ∀ (x : AV), x ∈ [AV.val (Value.int IntKind.u8 8), AV.val (Value.int IntKind.u8 8), AV.val (Value.int IntKind.u8 4), AV.val (Value.int IntKind.u8 (IntKind.wrap IntKind.u8 v))] → isByteAV x) ::
   (4 = 4 ∧ 4 + 4 ≤ 1000000000) ::
   (∀ (x : AV), x ∈ [AV.val (Value.int IntKind.u8 0), AV.val (Value.int IntKind.u8 12)] → isByteAV x) ::
   (24 ≤ 24) ::
   (24 ≤ 100000000) ::
   ((↑(ofL [192, 168, 1, 77, 8, 8, 4, UInt8.ofNat (Int.toNat (IntKind.wrap IntKind.u8 v)), 0, 17, 0, 12, UInt8.ofNat (Int.toNat (IntKind.wrap IntKind.u8 (Int.fdiv p (256 : Int)))), UInt8.ofNat (Int.toNat (IntKind.wrap IntKind.u8 p)), UInt8.ofNat (Int.toNat (IntKind.wrap IntKind.u8 (Int.fdiv q (256 : Int)))), UInt8.ofNat (Int.toNat (IntKind.wrap IntKind.u8 q)), 0, 12, 0, 0, 100, 97, 116, 97]) : Int) = s1) ::
   ((s1 == (0 : Int)) = true) ::
   (∀ (x : AV), x ∈ [AV.val (Value.int IntKind.u8 0), AV.val (Value.int IntKind.u8 32)] → isByteAV x) ::
   rp 2 (∀ (x : AV), x ∈ [AV.val (Value.int IntKind.u8 0), AV.val (Value.int IntKind.u8 0)] → isByteAV x) (
   (14 ≤ 16 ∧ 16 ≤ 16 ∧ ∀ (x : AV), x ∈ [AV.val (Value.int IntKind.u8 8), AV.val (Value.int IntKind.u8 8), AV.val (Value.int IntKind.u8 4), AV.val (Value.int IntKind.u8 (IntKind.wrap IntKind.u8 v))] → isByteAV x) ::
   (16 = 16 ∧ 16 + 4 ≤ 1000000000) ::
   (20 ≤ 20) ::
   ((↑(ofL [69, 0, 0, 32, 0, 0, 0, 0, 64, 17, 0, 0, 192, 168, 1, 77, 8, 8, 4, UInt8.ofNat (Int.toNat (IntKind.wrap IntKind.u8 v))]) : Int) = s2) ::
   (10 < 20) ::
   (isByteAV (AV.val (Value.int IntKind.u8 (IntKind.wrap IntKind.u8 (Int.fdiv s2 (256 : Int)))))) ::
   (11 < 20) ::
   (isByteAV (AV.val (Value.int IntKind.u8 (IntKind.wrap IntKind.u8 s2)))) ::
   (SameO (some (tdO29 v p q s2)) (tdO29 v p q s2)) ::
   (SameO (some tdO30) tdO30) ::
   (∀ (x : AV), x ∈ [AV.val (Value.int IntKind.u8 8), AV.val (Value.int IntKind.u8 0)] → isByteAV x) ::
   (SameO (some (tdO31 p q)) (tdO31 p q)) ::
   (SameO (some tdO5) tdO5) ::
   (SameO (some (tdO31 p q)) (tdO31 p q)) ::
   (SameO (some tdO5) tdO5) ::
   (SameO (some tdO6) tdO6) ::
   (SameO (some tdO7) tdO7) ::
   (SameO (some tdO8) tdO8) ::
   (SameO (some tdO9) tdO9) ::
   (SameO (some tdO10) tdO10) ::
   (SameO (some tdO11) tdO11) ::
   ((!ofL [69, 0, 0, 32, 0, 0, 0, 0, 64, 17, UInt8.ofNat (Int.toNat (IntKind.wrap IntKind.u8 (Int.fdiv s2 (256 : Int)))), UInt8.ofNat (Int.toNat (IntKind.wrap IntKind.u8 s2)), 192, 168, 1, 77, 8, 8, 4, UInt8.ofNat (Int.toNat (IntKind.wrap IntKind.u8 v))] == 0) = false) ::
   (14 ≤ 16 ∧ 16 ≤ 16 ∧ ∀ (x : AV), x ∈ [AV.val (Value.int IntKind.u8 (IntKind.wrap IntKind.u8 (Int.fdiv (↑(((UInt8.toNat 8 * 256 + UInt8.toNat 8) * 256 + UInt8.toNat 4) * 256 + UInt8.toNat (UInt8.ofNat (Int.toNat (IntKind.wrap IntKind.u8 v)))) : Int) (16777216 : Int)))), AV.val (Value.int IntKind.u8 (IntKind.wrap IntKind.u8 (Int.fdiv (↑(((UInt8.toNat 8 * 256 + UInt8.toNat 8) * 256 + UInt8.toNat 4) * 256 + UInt8.toNat (UInt8.ofNat (Int.toNat (IntKind.wrap IntKind.u8 v)))) : Int) (65536 : Int)))), AV.val (Value.int IntKind.u8 (IntKind.wrap IntKind.u8 (Int.fdiv (↑(((UInt8.toNat 8 * 256 + UInt8.toNat 8) * 256 + UInt8.toNat 4) * 256 + UInt8.toNat (UInt8.ofNat (Int.toNat (IntKind.wrap IntKind.u8 v)))) : Int) (256 : Int)))), AV.val (Value.int IntKind.u8 (IntKind.wrap IntKind.u8 (↑(((UInt8.toNat 8 * 256 + UInt8.toNat 8) * 256 + UInt8.toNat 4) * 256 + UInt8.toNat (UInt8.ofNat (Int.toNat (IntKind.wrap IntKind.u8 v)))) : Int)))] → isByteAV x) ::
   (4 = 4 ∧ 4 + 4 ≤ 1000000000) ::
   (SameO (some (tdO31 p q)) (tdO31 p q)) ::
   (SameO (some tdO5) tdO5) ::
   (SameO (some (tdO31 p q)) (tdO31 p q)) ::
   (SameO (some (tdO27 v)) (tdO27 v)) ::
   (SameO (some tdO32) tdO32) ::
   (((↑(ofL (psB 192 168 1 77 8 8 4 (UInt8.ofNat (Int.toNat (IntKind.wrap IntKind.u8 v))) [0, 17, 0, 12, UInt8.ofNat (Int.toNat (IntKind.wrap IntKind.u8 (Int.fdiv p (256 : Int)))), UInt8.ofNat (Int.toNat (IntKind.wrap IntKind.u8 p)), UInt8.ofNat (Int.toNat (IntKind.wrap IntKind.u8 (Int.fdiv q (256 : Int)))), UInt8.ofNat (Int.toNat (IntKind.wrap IntKind.u8 q)), 0, 12, 255, 255, 100, 97, 116, 97])) : Int) != (0 : Int)) = false) ::
   rp 9 (((↑(UInt8.toNat (UInt8.ofNat (Int.toNat (IntKind.wrap IntKind.u8 (Int.fdiv q (256 : Int))))) * 256 + UInt8.toNat (UInt8.ofNat (Int.toNat (IntKind.wrap IntKind.u8 q)))) : Int) == (67 : Int)) = true) (
   rp 4 ((IntKind.wrap IntKind.u8 (Int.fdiv (↑(((UInt8.toNat 8 * 256 + UInt8.toNat 8) * 256 + UInt8.toNat 4) * 256 + UInt8.toNat (UInt8.ofNat (Int.toNat (IntKind.wrap IntKind.u8 v)))) : Int) (16777216 : Int)) == (192 : Int) && (IntKind.wrap IntKind.u8 (Int.fdiv (↑(((UInt8.toNat 8 * 256 + UInt8.toNat 8) * 256 + UInt8.toNat 4) * 256 + UInt8.toNat (UInt8.ofNat (Int.toNat (IntKind.wrap IntKind.u8 v)))) : Int) (65536 : Int)) == (168 : Int) && (IntKind.wrap IntKind.u8 (Int.fdiv (↑(((UInt8.toNat 8 * 256 + UInt8.toNat 8) * 256 + UInt8.toNat 4) * 256 + UInt8.toNat (UInt8.ofNat (Int.toNat (IntKind.wrap IntKind.u8 v)))) : Int) (256 : Int)) == (1 : Int) && (IntKind.wrap IntKind.u8 (↑(((UInt8.toNat 8 * 256 + UInt8.toNat 8) * 256 + UInt8.toNat 4) * 256 + UInt8.toNat (UInt8.ofNat (Int.toNat (IntKind.wrap IntKind.u8 v)))) : Int) == (1 : Int) && true)))) = false) (
   (((↑(UInt8.toNat (UInt8.ofNat (Int.toNat (IntKind.wrap IntKind.u8 (Int.fdiv q (256 : Int))))) * 256 + UInt8.toNat (UInt8.ofNat (Int.toNat (IntKind.wrap IntKind.u8 q)))) : Int) == (67 : Int)) = true) ::
   ((IntKind.wrap IntKind.u8 (Int.fdiv (↑(((UInt8.toNat 8 * 256 + UInt8.toNat 8) * 256 + UInt8.toNat 4) * 256 + UInt8.toNat (UInt8.ofNat (Int.toNat (IntKind.wrap IntKind.u8 v)))) : Int) (16777216 : Int)) == (192 : Int) && (IntKind.wrap IntKind.u8 (Int.fdiv (↑(((UInt8.toNat 8 * 256 + UInt8.toNat 8) * 256 + UInt8.toNat 4) * 256 + UInt8.toNat (UInt8.ofNat (Int.toNat (IntKind.wrap IntKind.u8 v)))) : Int) (65536 : Int)) == (168 : Int) && (IntKind.wrap IntKind.u8 (Int.fdiv (↑(((UInt8.toNat 8 * 256 + UInt8.toNat 8) * 256 + UInt8.toNat 4) * 256 + UInt8.toNat (UInt8.ofNat (Int.toNat (IntKind.wrap IntKind.u8 v)))) : Int) (256 : Int)) == (1 : Int) && (IntKind.wrap IntKind.u8 (↑(((UInt8.toNat 8 * 256 + UInt8.toNat 8) * 256 + UInt8.toNat 4) * 256 + UInt8.toNat (UInt8.ofNat (Int.toNat (IntKind.wrap IntKind.u8 v)))) : Int) == (1 : Int) && true)))) = false) ::
   (((↑(UInt8.toNat (UInt8.ofNat (Int.toNat (IntKind.wrap IntKind.u8 (Int.fdiv q (256 : Int))))) * 256 + UInt8.toNat (UInt8.ofNat (Int.toNat (IntKind.wrap IntKind.u8 q)))) : Int) == (67 : Int)) = true) ::
   ((IntKind.wrap IntKind.u8 (Int.fdiv (↑(((UInt8.toNat 8 * 256 + UInt8.toNat 8) * 256 + UInt8.toNat 4) * 256 + UInt8.toNat (UInt8.ofNat (Int.toNat (IntKind.wrap IntKind.u8 v)))) : Int) (16777216 : Int)) == (255 : Int) && (IntKind.wrap IntKind.u8 (Int.fdiv (↑(((UInt8.toNat 8 * 256 + UInt8.toNat 8) * 256 + UInt8.toNat 4) * 256 + UInt8.toNat (UInt8.ofNat (Int.toNat (IntKind.wrap IntKind.u8 v)))) : Int) (65536 : Int)) == (255 : Int) && (IntKind.wrap IntKind.u8 (Int.fdiv (↑(((UInt8.toNat 8 * 256 + UInt8.toNat 8) * 256 + UInt8.toNat 4) * 256 + UInt8.toNat (UInt8.ofNat (Int.toNat (IntKind.wrap IntKind.u8 v)))) : Int) (256 : Int)) == (255 : Int) && (IntKind.wrap IntKind.u8 (↑(((UInt8.toNat 8 * 256 + UInt8.toNat 8) * 256 + UInt8.toNat 4) * 256 + UInt8.toNat (UInt8.ofNat (Int.toNat (IntKind.wrap IntKind.u8 v)))) : Int) == (255 : Int) && true)))) = false) ::
   (SameO (some (tdO33 v p q s2)) (tdO33 v p q s2)) ::
   (SameO (some tdO13) tdO13) ::
   (SameO (some tdO14) tdO14) ::
   (SameO (some tdO15) tdO15) ::
   (SameO (some tdO16) tdO16) ::
   (SameO (some tdO17) tdO17) ::
   (SameO (some tdO18) tdO18) ::
   (SameO (some tdO19) tdO19) ::
   (SameO (some tdO20) tdO20) ::
   (SameO (some tdO21) tdO21) ::
   (SameO (some tdO22) tdO22) ::
   (SameO (some tdO23) tdO23) ::
   (SameO (some tdO24) tdO24) ::
   (SameO (some tdO25) tdO25) ::
   (SameO (some tdO26) tdO26) :: []))))) := by kernel_rfl

set_option maxRecDepth 100000 in
theorem topDead_15_z_ok67 (n : Int) (v : Int) (p : Int) (q : Int) (draw : Int) (secs : Int) (b : List UInt8) (s1 : Int) (s2 : Int) : outT (kDead s1 s2) [(63, { op := [(1, 8, .keep)], ob := [(1, 8)] }),
   (285, { br := [(39, false)], ob := [(9, 3)] }),
   (189, { op := [(3, 22, .br true)], gd := [(3, 8, true), (3, 9, true), (3, 10, true), (3, 11, true), (3, 12, true), (3, 13, true), (3, 14, true), (3, 15, true), (3, 16, true), (3, 21, true)], ob := [(2, 1)] }),
   (188, { ob := [(1, 1), (4, 3), (5, 1), (6, 1), (7, 1), (8, 1), (9, 1), (11, 1), (11, 3), (12, 1), (13, 1), (14, 1), (15, 3), (16, 2), (16, 3)] }),
   (57, { ob := [(1, 1), (4, 4)] }),
   (179, { ob := [(2, 2)] }),
   (81, { op := [(5, 2, .keep)], ob := [(5, 2)] }),
   (16, { ob := [(1, 1), (8, 3)] }),
   (15, { op := [(60, 14, .keep)], ob := [(60, 14)] }),
   (173, { ob := [(1, 6)] }),
   (77, { ob := [(1, 2), (5, 3)] }),
   (73, { ob := [(5, 1), (6, 1), (6, 3), (6, 5), (7, 2), (7, 3)] }),
   (71, { ob := [(15, 8), (15, 10)] }),
   (326, { ob := [(7, 1)] }),
   (6, { op := [(7, 15, .keep)], ob := [(7, 15)] }),
   (3, { br := [(10, false)] }),
   (66, { ob := [(1, 8)] }),
   (162, { op := [(1, 9, .br false), (6, 5, .keep)], gd := [(1, 5, false), (1, 6, false), (1, 7, false), (1, 8, false)], br := [(17, false), (47, true)], ob := [(6, 5), (7, 5), (9, 2)] }),
   (288, { op := [(16, 5, .keep), (16, 11, .keep)], br := [(48, false)], ob := [(3, 1), (7, 2), (8, 1), (9, 1), (10, 1), (11, 1), (16, 5), (16, 11), (18, 3)] })] Tryz.prog 3 [AV.agg [AV.val (Value.int IntKind.i64 15), AV.val (Value.int IntKind.i64 n), AV.val (Value.int IntKind.i64 v), AV.val (Value.int IntKind.i64 p), AV.val (Value.int IntKind.i64 q), AV.val (Value.int IntKind.u32 draw), AV.val (Value.int IntKind.u32 secs), AV.bytes b]] [] 0 =
   some (AV.val (Value.bool true), [], 120814,
   (decide ((↑(List.length b) : Int) > (1600 : Int)) = false) ::
   rp 5 ((!(decide ((0 : Int) ≤ q) && decide (q ≤ (65535 : Int)))) = false) (
   ((!(decide ((0 : Int) ≤ p) && decide (p ≤ (65535 : Int)))) = false) ::
   (∀ (x : AV), x ∈ [AV.val (Value.int IntKind.u8 (IntKind.wrap IntKind.u8 (Int.fdiv q (256 : Int)))), AV.val (Value.int IntKind.u8 (IntKind.wrap IntKind.u8 q))] → isByteAV x) ::
   (∀ (x : AV), x ∈ [AV.val (Value.int IntKind.u8 (IntKind.wrap IntKind.u8 (Int.fdiv p (256 : Int)))), AV.val (Value.int IntKind.u8 (IntKind.wrap IntKind.u8 p))] → isByteAV x) ::
   (SameO (some (tdO34 q)) (tdO34 q)) ::
   rp 2 (∀ (x : AV), x ∈ [AV.val (Value.int IntKind.u8 0), AV.val (Value.int IntKind.u8 12)] → isByteAV x) (
   (24 ≤ 24) ::
   (24 ≤ 100000000) ::
   ((↑(ofL [192, 168, 1, 77, 203, 0, 113, 1, 0, 17, 0, 12, UInt8.ofNat (Int.toNat (IntKind.wrap IntKind.u8 (Int.fdiv q (256 : Int)))), UInt8.ofNat (Int.toNat (IntKind.wrap IntKind.u8 q)), UInt8.ofNat (Int.toNat (IntKind.wrap IntKind.u8 (Int.fdiv p (256 : Int)))), UInt8.ofNat (Int.toNat (IntKind.wrap IntKind.u8 p)), 0, 12, 0, 0, 104, 97, 105, 114]) : Int) = s1) ::
   ((s1 == (0 : Int)) = true) ::
   (∀ (x : AV), x ∈ [AV.val (Value.int IntKind.u8 0), AV.val (Value.int IntKind.u8 32)] → isByteAV x) ::
   rp 2 (∀ (x : AV), x ∈ [AV.val (Value.int IntKind.u8 0), AV.val (Value.int IntKind.u8 0)] → isByteAV x) (
   (20 ≤ 20) ::
   ((31958 : Int) = s2) ::
   (10 < 20) ::
   (isByteAV (AV.val (Value.int IntKind.u8 (IntKind.wrap IntKind.u8 (Int.fdiv s2 (256 : Int)))))) ::
   (11 < 20) ::
   (isByteAV (AV.val (Value.int IntKind.u8 (IntKind.wrap IntKind.u8 s2)))) ::
   (SameO (some (tdO41 p q s2)) (tdO41 p q s2)) ::
   (SameO (some tdO42) tdO42) ::
   (∀ (x : AV), x ∈ [AV.val (Value.int IntKind.u8 8), AV.val (Value.int IntKind.u8 0)] → isByteAV x) ::
   (SameO (some (tdO43 p q)) (tdO43 p q)) ::
   (SameO (some tdO5) tdO5) ::
   (SameO (some (tdO43 p q)) (tdO43 p q)) ::
   (SameO (some tdO5) tdO5) ::
   (SameO (some tdO6) tdO6) ::
   (SameO (some tdO7) tdO7) ::
   (SameO (some tdO8) tdO8) ::
   (SameO (some tdO9) tdO9) ::
   (SameO (some tdO10) tdO10) ::
   (SameO (some tdO11) tdO11) ::
   ((!ofL [69, 0, 0, 32, 0, 0, 0, 0, 64, 17, UInt8.ofNat (Int.toNat (IntKind.wrap IntKind.u8 (Int.fdiv s2 (256 : Int)))), UInt8.ofNat (Int.toNat (IntKind.wrap IntKind.u8 s2)), 192, 168, 1, 77, 203, 0, 113, 1] == 0) = false) ::
   (SameO (some (tdO43 p q)) (tdO43 p q)) ::
   (SameO (some tdO5) tdO5) ::
   (SameO (some (tdO43 p q)) (tdO43 p q)) ::
   (SameO (some tdO39) tdO39) ::
   (SameO (some tdO44) tdO44) ::
   (((↑(ofL (psB 192 168 1 77 203 0 113 1 [0, 17, 0, 12, UInt8.ofNat (Int.toNat (IntKind.wrap IntKind.u8 (Int.fdiv q (256 : Int)))), UInt8.ofNat (Int.toNat (IntKind.wrap IntKind.u8 q)), UInt8.ofNat (Int.toNat (IntKind.wrap IntKind.u8 (Int.fdiv p (256 : Int)))), UInt8.ofNat (Int.toNat (IntKind.wrap IntKind.u8 p)), 0, 12, 255, 255, 104, 97, 105, 114])) : Int) != (0 : Int)) = false) ::
   rp 11 (((↑(UInt8.toNat (UInt8.ofNat (Int.toNat (IntKind.wrap IntKind.u8 (Int.fdiv p (256 : Int))))) * 256 + UInt8.toNat (UInt8.ofNat (Int.toNat (IntKind.wrap IntKind.u8 p)))) : Int) == (67 : Int)) = true) (
   (SameO (some (tdO45 p q s2)) (tdO45 p q s2)) ::
   (SameO (some tdO13) tdO13) ::
   (SameO (some tdO14) tdO14) ::
   (SameO (some tdO15) tdO15) ::
   (SameO (some tdO16) tdO16) ::
   (SameO (some tdO17) tdO17) ::
   (SameO (some tdO18) tdO18) ::
   (SameO (some tdO19) tdO19) ::
   (SameO (some tdO20) tdO20) ::
   (SameO (some tdO21) tdO21) ::
   (SameO (some tdO22) tdO22) ::
   (SameO (some tdO23) tdO23) ::
   (SameO (some tdO24) tdO24) ::
   (SameO (some tdO25) tdO25) ::
   (SameO (some tdO26) tdO26) :: []))))) := by kernel_rfl

set_option maxRecDepth 100000 in
theorem topDead_7_z_ok (n : Int) (v : Int) (p : Int) (q : Int) (draw : Int) (secs : Int) (b : List UInt8) (s1 : Int) (s2 : Int) : outT (kDead s1 s2) [(63, { op := [(1, 8, .keep)], ob := [(1, 8)] }),
   (61, { ob := [(1, 4), (1, 8)] }),
   (285, { br := [(39, false)], ob := [(9, 3)] }),
   (189, { ob := [(2, 1)] }),
   (188, { ob := [(1, 1), (4, 3), (5, 1), (6, 1), (7, 1), (8, 1), (9, 1), (11, 1), (11, 3), (12, 1), (13, 1), (14, 1), (15, 3), (16, 2), (16, 3)] }),
   (59, { ob := [(1, 7)] }),
   (57, { ob := [(1, 1), (4, 4)] }),
   (179, { ob := [(2, 2)] }),
   (81, { op := [(5, 2, .keep)], ob := [(5, 2)] }),
   (16, { ob := [(1, 1), (8, 3)] }),
   (15, { op := [(32, 4, .keep), (32, 7, .keep), (32, 10, .keep)], ob := [(32, 1), (32, 4), (32, 7), (32, 10), (33, 5), (33, 6)] }),
   (173, { ob := [(1, 6)] }),
   (77, { ob := [(1, 2), (5, 3)] }),
   (73, { ob := [(5, 1), (6, 1), (6, 3), (6, 5), (7, 2), (7, 3)] }),
   (71, { ob := [(15, 8), (15, 10)] }),
   (326, { ob := [(7, 1)] }),
   (6, { op := [(7, 15, .keep)], ob := [(7, 15)] }),
   (3, { br := [(10, false)] }),
   (162, { br := [(47, true)], ob := [(9, 2)] }),
   (66, { ob := [(1, 8)] }),
   (288, { op := [(16, 5, .keep), (16, 11, .keep)], br := [(48, false)], ob := [(3, 1), (7, 2), (8, 1), (9, 1), (10, 1), (11, 1), (16, 5), (16, 11), (18, 3)] })] Tryz.prog 3 [AV.agg [AV.val (Value.int IntKind.i64 7), AV.val (Value.int IntKind.i64 n), AV.val (Value.int IntKind.i64 v), AV.val (Value.int IntKind.i64 p), AV.val (Value.int IntKind.i64 q), AV.val (Value.int IntKind.u32 draw), AV.val (Value.int IntKind.u32 secs), AV.bytes b]] [] 0 =
   some (AV.val (Value.bool true), [], 120868,
   (decide ((↑(List.length b) : Int) > (1600 : Int)) = false) ::
   (∀ (x : AV), x ∈ [AV.val (Value.int IntKind.u8 0), AV.val (Value.int IntKind.u8 (IntKind.wrap IntKind.u8 (IntKind.wrap IntKind.i64 ((1 : Int) + bits BinOp.and IntKind.i64 v (1 : Int))))), AV.val (Value.int IntKind.u8 0), AV.val (Value.int IntKind.u8 0)] → isByteAV x) ::
   (∀ (x : AV), x ∈ [AV.val (Value.int IntKind.u8 (IntKind.wrap IntKind.u8 (Int.fdiv p (256 : Int)))), AV.val (Value.int IntKind.u8 (IntKind.wrap IntKind.u8 p))] → isByteAV x) ::
   (SameO (some (tdO46 v)) (tdO46 v)) ::
   (∀ (x : AV), x ∈ [AV.val (Value.int IntKind.u8 (IntKind.wrap IntKind.u8 (Int.fdiv q (256 : Int)))), AV.val (Value.int IntKind.u8 (IntKind.wrap IntKind.u8 q))] → isByteAV x) ::
   (SameO (some (tdO47 v p)) (tdO47 v p)) ::
   (∀ (x : AV), x ∈ [AV.val (Value.int IntKind.u8 (IntKind.wrap IntKind.u8 (Int.fdiv (IntKind.wrap IntKind.i64 (Int.fdiv secs (65536 : Int))) (256 : Int)))), AV.val (Value.int IntKind.u8 (IntKind.wrap IntKind.u8 (IntKind.wrap IntKind.i64 (Int.fdiv secs (65536 : Int)))))] → isByteAV x) ::
   (∀ (x : AV), x ∈ [AV.val (Value.int IntKind.u8 (IntKind.wrap IntKind.u8 (Int.fdiv (IntKind.wrap IntKind.i64 (bits BinOp.and IntKind.u32 secs (65535 : Int))) (256 : Int)))), AV.val (Value.int IntKind.u8 (IntKind.wrap IntKind.u8 (IntKind.wrap IntKind.i64 (bits BinOp.and IntKind.u32 secs (65535 : Int)))))] → isByteAV x) ::
   (SameO (some (tdO48 v p q)) (tdO48 v p q)) ::
   (∀ (x : AV), x ∈ [AV.val (Value.int IntKind.u8 19), AV.val (Value.int IntKind.u8 136)] → isByteAV x) ::
   (∀ (x : AV), x ∈ [AV.val (Value.int IntKind.u8 20), AV.val (Value.int IntKind.u8 231)] → isByteAV x) ::
   rp 2 (∀ (x : AV), x ∈ [AV.val (Value.int IntKind.u8 0), AV.val (Value.int IntKind.u8 20)] → isByteAV x) (
   (32 ≤ 32) ::
   (32 ≤ 100000000) ::
   ((↑(ofL [192, 168, 1, 77, 192, 168, 1, 1, 0, 17, 0, 20, 19, 136, 20, 231, 0, 20, 0, 0, 0, UInt8.ofNat (Int.toNat (IntKind.wrap IntKind.u8 (IntKind.wrap IntKind.i64 ((1 : Int) + bits BinOp.and IntKind.i64 v (1 : Int))))), 0, 0, UInt8.ofNat (Int.toNat (IntKind.wrap IntKind.u8 (Int.fdiv p (256 : Int)))), UInt8.ofNat (Int.toNat (IntKind.wrap IntKind.u8 p)), UInt8.ofNat (Int.toNat (IntKind.wrap IntKind.u8 (Int.fdiv q (256 : Int)))), UInt8.ofNat (Int.toNat (IntKind.wrap IntKind.u8 q)), UInt8.ofNat (Int.toNat (IntKind.wrap IntKind.u8 (Int.fdiv (IntKind.wrap IntKind.i64 (Int.fdiv secs (65536 : Int))) (256 : Int)))), UInt8.ofNat (Int.toNat (IntKind.wrap IntKind.u8 (IntKind.wrap IntKind.i64 (Int.fdiv secs (65536 : Int))))), UInt8.ofNat (Int.toNat (IntKind.wrap IntKind.u8 (Int.fdiv (IntKind.wrap IntKind.i64 (bits BinOp.and IntKind.u32 secs (65535 : Int))) (256 : Int)))), UInt8.ofNat (Int.toNat (IntKind.wrap IntKind.u8 (IntKind.wrap IntKind.i64 (bits BinOp.and IntKind.u32 secs (65535 : Int)))))]) : Int) = s1) ::
   ((s1 == (0 : Int)) = true) ::
   (∀ (x : AV), x ∈ [AV.val (Value.int IntKind.u8 0), AV.val (Value.int IntKind.u8 40)] → isByteAV x) ::
   rp 2 (∀ (x : AV), x ∈ [AV.val (Value.int IntKind.u8 0), AV.val (Value.int IntKind.u8 0)] → isByteAV x) (
   (20 ≤ 20) ::
   ((63270 : Int) = s2) ::
   (10 < 20) ::
   (isByteAV (AV.val (Value.int IntKind.u8 (IntKind.wrap IntKind.u8 (Int.fdiv s2 (256 : Int)))))) ::
   (11 < 20) ::
   (isByteAV (AV.val (Value.int IntKind.u8 (IntKind.wrap IntKind.u8 s2)))) ::
   (SameO (some (tdO79 v p q secs s2)) (tdO79 v p q secs s2)) ::
   (SameO (some tdO80) tdO80) ::
   (∀ (x : AV), x ∈ [AV.val (Value.int IntKind.u8 8), AV.val (Value.int IntKind.u8 0)] → isByteAV x) ::
   (SameO (some (tdO81 v p q secs)) (tdO81 v p q secs)) ::
   (SameO (some tdO5) tdO5) ::
   ((!ofL [69, 0, 0, 40, 0, 0, 0, 0, 64, 17, UInt8.ofNat (Int.toNat (IntKind.wrap IntKind.u8 (Int.fdiv s2 (256 : Int)))), UInt8.ofNat (Int.toNat (IntKind.wrap IntKind.u8 s2)), 192, 168, 1, 77, 192, 168, 1, 1] == 0) = false) ::
   (SameO (some (tdO81 v p q secs)) (tdO81 v p q secs)) ::
   (SameO (some tdO5) tdO5) ::
   (SameO (some (tdO81 v p q secs)) (tdO81 v p q secs)) ::
   (SameO (some tdO53) tdO53) ::
   (SameO (some tdO82) tdO82) ::
   (((↑(ofL (psB 192 168 1 77 192 168 1 1 [0, 17, 0, 20, 19, 136, 20, 231, 0, 20, 255, 255, 0, UInt8.ofNat (Int.toNat (IntKind.wrap IntKind.u8 (IntKind.wrap IntKind.i64 ((1 : Int) + bits BinOp.and IntKind.i64 v (1 : Int))))), 0, 0, UInt8.ofNat (Int.toNat (IntKind.wrap IntKind.u8 (Int.fdiv p (256 : Int)))), UInt8.ofNat (Int.toNat (IntKind.wrap IntKind.u8 p)), UInt8.ofNat (Int.toNat (IntKind.wrap IntKind.u8 (Int.fdiv q (256 : Int)))), UInt8.ofNat (Int.toNat (IntKind.wrap IntKind.u8 q)), UInt8.ofNat (Int.toNat (IntKind.wrap IntKind.u8 (Int.fdiv (IntKind.wrap IntKind.i64 (Int.fdiv secs (65536 : Int))) (256 : Int)))), UInt8.ofNat (Int.toNat (IntKind.wrap IntKind.u8 (IntKind.wrap IntKind.i64 (Int.fdiv secs (65536 : Int))))), UInt8.ofNat (Int.toNat (IntKind.wrap IntKind.u8 (Int.fdiv (IntKind.wrap IntKind.i64 (bits BinOp.and IntKind.u32 secs (65535 : Int))) (256 : Int)))), UInt8.ofNat (Int.toNat (IntKind.wrap IntKind.u8 (IntKind.wrap IntKind.i64 (bits BinOp.and IntKind.u32 secs (65535 : Int)))))])) : Int) != (0 : Int)) = false) ::
   (SameO (some (tdO83 v p q secs s2)) (tdO83 v p q secs s2)) ::
   (SameO (some tdO13) tdO13) ::
   (SameO (some tdO14) tdO14) ::
   (SameO (some tdO15) tdO15) ::
   (SameO (some tdO16) tdO16) ::
   (SameO (some tdO17) tdO17) ::
   (SameO (some tdO18) tdO18) ::
   (SameO (some tdO19) tdO19) ::
   (SameO (some tdO20) tdO20) ::
   (SameO (some tdO21) tdO21) ::
   (SameO (some tdO22) tdO22) ::
   (SameO (some tdO23) tdO23) ::
   (SameO (some tdO24) tdO24) ::
   (SameO (some tdO25) tdO25) ::
   (SameO (some tdO26) tdO26) :: []))) := by kernel_rfl
end Go.Proofs.YtbpofglponmpnaaGreatDoor

/- TopDead, reckoned on some of its ways. (Printed by wip/sym/dead.py and foldo.py.) -/
namespace Go.Proofs.YtbpofglponmpnaaGreatDoor
open Go.RowKit

set_option maxRecDepth 100000 in
theorem topDead_7_z_hbad (n : Int) (v : Int) (p : Int) (q : Int) (draw : Int) (secs : Int) (b : List UInt8) (s1 : Int) (s2 : Int) : outT (kDead s1 s2) [(63, { op := [(1, 8, .keep)], ob := [(1, 8)] }),
   (61, { ob := [(1, 4), (1, 8)] }),
   (285, { br := [(39, true)], ob := [(9, 3)] }),
   (188, { ob := [(1, 1)] }),
   (59, { ob := [(1, 7)] }),
   (57, { ob := [(1, 1), (4, 4)] }),
   (179, { ob := [(2, 2)] }),
   (81, { op := [(5, 2, .keep)], ob := [(5, 2)] }),
   (16, { ob := [(1, 1), (8, 3)] }),
   (15, { op := [(32, 4, .keep), (32, 7, .keep), (32, 10, .keep)], ob := [(32, 1), (32, 4), (32, 7), (32, 10), (33, 5), (33, 6)] }),
   (173, { ob := [(1, 6)] }),
   (77, { ob := [(1, 2)] }),
   (73, { ob := [(5, 1), (6, 1), (6, 3), (6, 5), (7, 2), (7, 3)] }),
   (71, { ob := [(15, 8), (15, 10)] }),
   (6, { op := [(7, 15, .keep)], ob := [(7, 15)] }),
   (3, { br := [(10, false)] }),
   (162, { br := [(47, true)], ob := [(9, 2)] }),
   (66, { ob := [(1, 8)] })] Tryz.prog 3 [AV.agg [AV.val (Value.int IntKind.i64 7), AV.val (Value.int IntKind.i64 n), AV.val (Value.int IntKind.i64 v), AV.val (Value.int IntKind.i64 p), AV.val (Value.int IntKind.i64 q), AV.val (Value.int IntKind.u32 draw), AV.val (Value.int IntKind.u32 secs), AV.bytes b]] [] 0 =
   some (AV.val (Value.bool true), [], 118407,
   (decide ((↑(List.length b) : Int) > (1600 : Int)) = false) ::
   (∀ (x : AV), x ∈ [AV.val (Value.int IntKind.u8 0), AV.val (Value.int IntKind.u8 (IntKind.wrap IntKind.u8 (IntKind.wrap IntKind.i64 ((1 : Int) + bits BinOp.and IntKind.i64 v (1 : Int))))), AV.val (Value.int IntKind.u8 0), AV.val (Value.int IntKind.u8 0)] → isByteAV x) ::
   (∀ (x : AV), x ∈ [AV.val (Value.int IntKind.u8 (IntKind.wrap IntKind.u8 (Int.fdiv p (256 : Int)))), AV.val (Value.int IntKind.u8 (IntKind.wrap IntKind.u8 p))] → isByteAV x) ::
   (SameO (some (tdO46 v)) (tdO46 v)) ::
   (∀ (x : AV), x ∈ [AV.val (Value.int IntKind.u8 (IntKind.wrap IntKind.u8 (Int.fdiv q (256 : Int)))), AV.val (Value.int IntKind.u8 (IntKind.wrap IntKind.u8 q))] → isByteAV x) ::
   (SameO (some (tdO47 v p)) (tdO47 v p)) ::
   (∀ (x : AV), x ∈ [AV.val (Value.int IntKind.u8 (IntKind.wrap IntKind.u8 (Int.fdiv (IntKind.wrap IntKind.i64 (Int.fdiv secs (65536 : Int))) (256 : Int)))), AV.val (Value.int IntKind.u8 (IntKind.wrap IntKind.u8 (IntKind.wrap IntKind.i64 (Int.fdiv secs (65536 : Int)))))] → isByteAV x) ::
   (∀ (x : AV), x ∈ [AV.val (Value.int IntKind.u8 (IntKind.wrap IntKind.u8 (Int.fdiv (IntKind.wrap IntKind.i64 (bits BinOp.and IntKind.u32 secs (65535 : Int))) (256 : Int)))), AV.val (Value.int IntKind.u8 (IntKind.wrap IntKind.u8 (IntKind.wrap IntKind.i64 (bits BinOp.and IntKind.u32 secs (65535 : Int)))))] → isByteAV x) ::
   (SameO (some (tdO48 v p q)) (tdO48 v p q)) ::
   (∀ (x : AV), x ∈ [AV.val (Value.int IntKind.u8 19), AV.val (Value.int IntKind.u8 136)] → isByteAV x) ::
   (∀ (x : AV), x ∈ [AV.val (Value.int IntKind.u8 20), AV.val (Value.int IntKind.u8 231)] → isByteAV x) ::
   rp 2 (∀ (x : AV), x ∈ [AV.val (Value.int IntKind.u8 0), AV.val (Value.int IntKind.u8 20)] → isByteAV x) (
   (32 ≤ 32) ::
   (32 ≤ 100000000) ::
   ((↑(ofL [192, 168, 1, 77, 192, 168, 1, 1, 0, 17, 0, 20, 19, 136, 20, 231, 0, 20, 0, 0, 0, UInt8.ofNat (Int.toNat (IntKind.wrap IntKind.u8 (IntKind.wrap IntKind.i64 ((1 : Int) + bits BinOp.and IntKind.i64 v (1 : Int))))), 0, 0, UInt8.ofNat (Int.toNat (IntKind.wrap IntKind.u8 (Int.fdiv p (256 : Int)))), UInt8.ofNat (Int.toNat (IntKind.wrap IntKind.u8 p)), UInt8.ofNat (Int.toNat (IntKind.wrap IntKind.u8 (Int.fdiv q (256 : Int)))), UInt8.ofNat (Int.toNat (IntKind.wrap IntKind.u8 q)), UInt8.ofNat (Int.toNat (IntKind.wrap IntKind.u8 (Int.fdiv (IntKind.wrap IntKind.i64 (Int.fdiv secs (65536 : Int))) (256 : Int)))), UInt8.ofNat (Int.toNat (IntKind.wrap IntKind.u8 (IntKind.wrap IntKind.i64 (Int.fdiv secs (65536 : Int))))), UInt8.ofNat (Int.toNat (IntKind.wrap IntKind.u8 (Int.fdiv (IntKind.wrap IntKind.i64 (bits BinOp.and IntKind.u32 secs (65535 : Int))) (256 : Int)))), UInt8.ofNat (Int.toNat (IntKind.wrap IntKind.u8 (IntKind.wrap IntKind.i64 (bits BinOp.and IntKind.u32 secs (65535 : Int)))))]) : Int) = s1) ::
   ((s1 == (0 : Int)) = true) ::
   (∀ (x : AV), x ∈ [AV.val (Value.int IntKind.u8 0), AV.val (Value.int IntKind.u8 40)] → isByteAV x) ::
   rp 2 (∀ (x : AV), x ∈ [AV.val (Value.int IntKind.u8 0), AV.val (Value.int IntKind.u8 0)] → isByteAV x) (
   (20 ≤ 20) ::
   ((63270 : Int) = s2) ::
   (10 < 20) ::
   (isByteAV (AV.val (Value.int IntKind.u8 (IntKind.wrap IntKind.u8 (Int.fdiv s2 (256 : Int)))))) ::
   (11 < 20) ::
   (isByteAV (AV.val (Value.int IntKind.u8 (IntKind.wrap IntKind.u8 s2)))) ::
   (SameO (some (tdO79 v p q secs s2)) (tdO79 v p q secs s2)) ::
   (SameO (some tdO80) tdO80) ::
   (∀ (x : AV), x ∈ [AV.val (Value.int IntKind.u8 8), AV.val (Value.int IntKind.u8 0)] → isByteAV x) ::
   (SameO (some (tdO81 v p q secs)) (tdO81 v p q secs)) ::
   (SameO (some tdO5) tdO5) ::
   ((!ofL [69, 0, 0, 40, 0, 0, 0, 0, 64, 17, UInt8.ofNat (Int.toNat (IntKind.wrap IntKind.u8 (Int.fdiv s2 (256 : Int)))), UInt8.ofNat (Int.toNat (IntKind.wrap IntKind.u8 s2)), 192, 168, 1, 77, 192, 168, 1, 1] == 0) = true) ::
   (SameO (some (tdO83 v p q secs s2)) (tdO83 v p q secs s2)) ::
   (SameO (some tdO13) tdO13) ::
   (SameO (some tdO14) tdO14) ::
   (SameO (some tdO15) tdO15) ::
   (SameO (some tdO16) tdO16) ::
   (SameO (some tdO17) tdO17) ::
   (SameO (some tdO18) tdO18) ::
   (SameO (some tdO19) tdO19) ::
   (SameO (some tdO20) tdO20) ::
   (SameO (some tdO21) tdO21) ::
   (SameO (some tdO22) tdO22) ::
   (SameO (some tdO23) tdO23) ::
   (SameO (some tdO24) tdO24) ::
   (SameO (some tdO25) tdO25) ::
   (SameO (some tdO26) tdO26) :: []))) := by kernel_rfl

set_option maxRecDepth 100000 in
theorem topDead_7_z_esum (n : Int) (v : Int) (p : Int) (q : Int) (draw : Int) (secs : Int) (b : List UInt8) (s1 : Int) (s2 : Int) : outT (kDead s1 s2) [(63, { op := [(1, 8, .keep)], ob := [(1, 8)] }),
   (61, { ob := [(1, 4), (1, 8)] }),
   (285, { br := [(39, false)], ob := [(9, 3)] }),
   (189, { ob := [(2, 1)] }),
   (188, { ob := [(1, 1), (4, 3), (5, 1), (6, 1), (7, 1), (8, 1), (9, 1), (11, 1), (11, 3), (12, 1), (13, 1), (14, 1), (15, 3), (16, 2), (16, 3)] }),
   (59, { ob := [(1, 7)] }),
   (57, { ob := [(1, 1), (4, 4)] }),
   (179, { ob := [(2, 2)] }),
   (81, { op := [(5, 2, .keep)], ob := [(5, 2)] }),
   (16, { ob := [(1, 1), (8, 3)] }),
   (15, { op := [(32, 4, .keep), (32, 7, .keep), (32, 10, .keep)], ob := [(32, 1), (32, 4), (32, 7), (32, 10), (33, 5), (33, 6)] }),
   (173, { ob := [(1, 6)] }),
   (77, { ob := [(1, 2), (5, 3)] }),
   (73, { ob := [(5, 1), (6, 1), (6, 3), (6, 5), (7, 2), (7, 3)] }),
   (71, { ob := [(15, 8), (15, 10)] }),
   (326, { ob := [(7, 1)] }),
   (6, { op := [(7, 15, .keep)], ob := [(7, 15)] }),
   (3, { br := [(10, false)] }),
   (162, { br := [(47, true)], ob := [(9, 2)] }),
   (66, { ob := [(1, 8)] }),
   (288, { op := [(16, 5, .keep), (16, 11, .keep)], br := [(48, true)], ob := [(3, 1), (7, 2), (8, 1), (9, 1), (10, 1), (11, 1), (16, 5), (16, 11)] })] Tryz.prog 3 [AV.agg [AV.val (Value.int IntKind.i64 7), AV.val (Value.int IntKind.i64 n), AV.val (Value.int IntKind.i64 v), AV.val (Value.int IntKind.i64 p), AV.val (Value.int IntKind.i64 q), AV.val (Value.int IntKind.u32 draw), AV.val (Value.int IntKind.u32 secs), AV.bytes b]] [] 0 =
   some (AV.val (Value.bool true), [], 120828,
   (decide ((↑(List.length b) : Int) > (1600 : Int)) = false) ::
   (∀ (x : AV), x ∈ [AV.val (Value.int IntKind.u8 0), AV.val (Value.int IntKind.u8 (IntKind.wrap IntKind.u8 (IntKind.wrap IntKind.i64 ((1 : Int) + bits BinOp.and IntKind.i64 v (1 : Int))))), AV.val (Value.int IntKind.u8 0), AV.val (Value.int IntKind.u8 0)] → isByteAV x) ::
   (∀ (x : AV), x ∈ [AV.val (Value.int IntKind.u8 (IntKind.wrap IntKind.u8 (Int.fdiv p (256 : Int)))), AV.val (Value.int IntKind.u8 (IntKind.wrap IntKind.u8 p))] → isByteAV x) ::
   (SameO (some (tdO46 v)) (tdO46 v)) ::
   (∀ (x : AV), x ∈ [AV.val (Value.int IntKind.u8 (IntKind.wrap IntKind.u8 (Int.fdiv q (256 : Int)))), AV.val (Value.int IntKind.u8 (IntKind.wrap IntKind.u8 q))] → isByteAV x) ::
   (SameO (some (tdO47 v p)) (tdO47 v p)) ::
   (∀ (x : AV), x ∈ [AV.val (Value.int IntKind.u8 (IntKind.wrap IntKind.u8 (Int.fdiv (IntKind.wrap IntKind.i64 (Int.fdiv secs (65536 : Int))) (256 : Int)))), AV.val (Value.int IntKind.u8 (IntKind.wrap IntKind.u8 (IntKind.wrap IntKind.i64 (Int.fdiv secs (65536 : Int)))))] → isByteAV x) ::
   (∀ (x : AV), x ∈ [AV.val (Value.int IntKind.u8 (IntKind.wrap IntKind.u8 (Int.fdiv (IntKind.wrap IntKind.i64 (bits BinOp.and IntKind.u32 secs (65535 : Int))) (256 : Int)))), AV.val (Value.int IntKind.u8 (IntKind.wrap IntKind.u8 (IntKind.wrap IntKind.i64 (bits BinOp.and IntKind.u32 secs (65535 : Int)))))] → isByteAV x) ::
   (SameO (some (tdO48 v p q)) (tdO48 v p q)) ::
   (∀ (x : AV), x ∈ [AV.val (Value.int IntKind.u8 19), AV.val (Value.int IntKind.u8 136)] → isByteAV x) ::
   (∀ (x : AV), x ∈ [AV.val (Value.int IntKind.u8 20), AV.val (Value.int IntKind.u8 231)] → isByteAV x) ::
   rp 2 (∀ (x : AV), x ∈ [AV.val (Value.int IntKind.u8 0), AV.val (Value.int IntKind.u8 20)] → isByteAV x) (
   (32 ≤ 32) ::
   (32 ≤ 100000000) ::
   ((↑(ofL [192, 168, 1, 77, 192, 168, 1, 1, 0, 17, 0, 20, 19, 136, 20, 231, 0, 20, 0, 0, 0, UInt8.ofNat (Int.toNat (IntKind.wrap IntKind.u8 (IntKind.wrap IntKind.i64 ((1 : Int) + bits BinOp.and IntKind.i64 v (1 : Int))))), 0, 0, UInt8.ofNat (Int.toNat (IntKind.wrap IntKind.u8 (Int.fdiv p (256 : Int)))), UInt8.ofNat (Int.toNat (IntKind.wrap IntKind.u8 p)), UInt8.ofNat (Int.toNat (IntKind.wrap IntKind.u8 (Int.fdiv q (256 : Int)))), UInt8.ofNat (Int.toNat (IntKind.wrap IntKind.u8 q)), UInt8.ofNat (Int.toNat (IntKind.wrap IntKind.u8 (Int.fdiv (IntKind.wrap IntKind.i64 (Int.fdiv secs (65536 : Int))) (256 : Int)))), UInt8.ofNat (Int.toNat (IntKind.wrap IntKind.u8 (IntKind.wrap IntKind.i64 (Int.fdiv secs (65536 : Int))))), UInt8.ofNat (Int.toNat (IntKind.wrap IntKind.u8 (Int.fdiv (IntKind.wrap IntKind.i64 (bits BinOp.and IntKind.u32 secs (65535 : Int))) (256 : Int)))), UInt8.ofNat (Int.toNat (IntKind.wrap IntKind.u8 (IntKind.wrap IntKind.i64 (bits BinOp.and IntKind.u32 secs (65535 : Int)))))]) : Int) = s1) ::
   ((s1 == (0 : Int)) = true) ::
   (∀ (x : AV), x ∈ [AV.val (Value.int IntKind.u8 0), AV.val (Value.int IntKind.u8 40)] → isByteAV x) ::
   rp 2 (∀ (x : AV), x ∈ [AV.val (Value.int IntKind.u8 0), AV.val (Value.int IntKind.u8 0)] → isByteAV x) (
   (20 ≤ 20) ::
   ((63270 : Int) = s2) ::
   (10 < 20) ::
   (isByteAV (AV.val (Value.int IntKind.u8 (IntKind.wrap IntKind.u8 (Int.fdiv s2 (256 : Int)))))) ::
   (11 < 20) ::
   (isByteAV (AV.val (Value.int IntKind.u8 (IntKind.wrap IntKind.u8 s2)))) ::
   (SameO (some (tdO79 v p q secs s2)) (tdO79 v p q secs s2)) ::
   (SameO (some tdO80) tdO80) ::
   (∀ (x : AV), x ∈ [AV.val (Value.int IntKind.u8 8), AV.val (Value.int IntKind.u8 0)] → isByteAV x) ::
   (SameO (some (tdO81 v p q secs)) (tdO81 v p q secs)) ::
   (SameO (some tdO5) tdO5) ::
   ((!ofL [69, 0, 0, 40, 0, 0, 0, 0, 64, 17, UInt8.ofNat (Int.toNat (IntKind.wrap IntKind.u8 (Int.fdiv s2 (256 : Int)))), UInt8.ofNat (Int.toNat (IntKind.wrap IntKind.u8 s2)), 192, 168, 1, 77, 192, 168, 1, 1] == 0) = false) ::
   (SameO (some (tdO81 v p q secs)) (tdO81 v p q secs)) ::
   (SameO (some tdO5) tdO5) ::
   (SameO (some (tdO81 v p q secs)) (tdO81 v p q secs)) ::
   (SameO (some tdO53) tdO53) ::
   (SameO (some tdO82) tdO82) ::
   (((↑(ofL (psB 192 168 1 77 192 168 1 1 [0, 17, 0, 20, 19, 136, 20, 231, 0, 20, 255, 255, 0, UInt8.ofNat (Int.toNat (IntKind.wrap IntKind.u8 (IntKind.wrap IntKind.i64 ((1 : Int) + bits BinOp.and IntKind.i64 v (1 : Int))))), 0, 0, UInt8.ofNat (Int.toNat (IntKind.wrap IntKind.u8 (Int.fdiv p (256 : Int)))), UInt8.ofNat (Int.toNat (IntKind.wrap IntKind.u8 p)), UInt8.ofNat (Int.toNat (IntKind.wrap IntKind.u8 (Int.fdiv q (256 : Int)))), UInt8.ofNat (Int.toNat (IntKind.wrap IntKind.u8 q)), UInt8.ofNat (Int.toNat (IntKind.wrap IntKind.u8 (Int.fdiv (IntKind.wrap IntKind.i64 (Int.fdiv secs (65536 : Int))) (256 : Int)))), UInt8.ofNat (Int.toNat (IntKind.wrap IntKind.u8 (IntKind.wrap IntKind.i64 (Int.fdiv secs (65536 : Int))))), UInt8.ofNat (Int.toNat (IntKind.wrap IntKind.u8 (Int.fdiv (IntKind.wrap IntKind.i64 (bits BinOp.and IntKind.u32 secs (65535 : Int))) (256 : Int)))), UInt8.ofNat (Int.toNat (IntKind.wrap IntKind.u8 (IntKind.wrap IntKind.i64 (bits BinOp.and IntKind.u32 secs (65535 : Int)))))])) : Int) != (0 : Int)) = true) ::
   (SameO (some (tdO83 v p q secs s2)) (tdO83 v p q secs s2)) ::
   (SameO (some tdO13) tdO13) ::
   (SameO (some tdO14) tdO14) ::
   (SameO (some tdO15) tdO15) ::
   (SameO (some tdO16) tdO16) ::
   (SameO (some tdO17) tdO17) ::
   (SameO (some tdO18) tdO18) ::
   (SameO (some tdO19) tdO19) ::
   (SameO (some tdO20) tdO20) ::
   (SameO (some tdO21) tdO21) ::
   (SameO (some tdO22) tdO22) ::
   (SameO (some tdO23) tdO23) ::
   (SameO (some tdO24) tdO24) ::
   (SameO (some tdO25) tdO25) ::
   (SameO (some tdO26) tdO26) :: []))) := by kernel_rfl

set_option maxRecDepth 100000 in
theorem topDead_9_z_hbad (n : Int) (v : Int) (p : Int) (q : Int) (draw : Int) (secs : Int) (b : List UInt8) (s1 : Int) (s2 : Int) : outT (kDead s1 s2) [(63, { op := [(1, 8, .keep)], ob := [(1, 8)] }),
   (285, { br := [(39, true)], ob := [(9, 3)] }),
   (188, { ob := [(1, 1)] }),
   (59, { ob := [(1, 7)] }),
   (57, { ob := [(1, 1), (4, 4)] }),
   (179, { ob := [(2, 2)] }),
   (81, { op := [(5, 2, .keep)], ob := [(5, 2)] }),
   (16, { ob := [(1, 1), (8, 3)] }),
   (15, { ob := [(35, 7), (36, 1), (37, 5), (37, 6)] }),
   (173, { ob := [(1, 6)] }),
   (77, { ob := [(1, 2)] }),
   (73, { ob := [(5, 1), (6, 1), (6, 3), (6, 5), (7, 2), (7, 3)] }),
   (71, { ob := [(15, 8), (15, 10)] }),
   (166, { op := [(1, 5, .br true)], gd := [(1, 3, true), (1, 4, true)] }),
   (6, { op := [(7, 15, .keep)], ob := [(7, 15)] }),
   (67, { op := [(1, 9, .br false), (3, 5, .keep), (4, 4, .keep), (4, 8, .keep), (5, 4, .keep), (5, 8, .keep), (12, 3, .keep), (12, 6, .keep), (12, 9, .keep), (13, 3, .keep), (13, 6, .keep), (13, 9, .keep)], gd := [(1, 5, false), (1, 6, false), (1, 7, false), (1, 8, false)], ob := [(3, 5), (4, 4), (4, 8), (5, 4), (5, 8), (10, 2), (12, 3), (12, 6), (12, 9), (13, 3), (13, 6), (13, 9)] }),
   (3, { br := [(10, false)] }),
   (162, { br := [(47, true)], ob := [(9, 2)] }),
   (66, { ob := [(1, 8)] })] Tryz.prog 3 [AV.agg [AV.val (Value.int IntKind.i64 9), AV.val (Value.int IntKind.i64 n), AV.val (Value.int IntKind.i64 v), AV.val (Value.int IntKind.i64 p), AV.val (Value.int IntKind.i64 q), AV.val (Value.int IntKind.u32 draw), AV.val (Value.int IntKind.u32 secs), AV.bytes b]] [] 0 =
   some (AV.val (Value.bool true), [], 118773,
   (decide ((↑(List.length b) : Int) > (1600 : Int)) = false) ::
   (∀ (x : AV), x ∈ [AV.val (Value.int IntKind.u8 (IntKind.wrap IntKind.u8 (IntKind.wrap IntKind.i64 ((97 : Int) + bits BinOp.and IntKind.i64 v (15 : Int)))))] → isByteAV x) ::
   rp 3 (decide (p ≥ (0 : Int)) = true) (
   rp 3 ((!decide (p ≤ (65535 : Int))) = false) (
   rp 3 (true = true) (
   rp 2 ((!decide (p ≤ (65535 : Int))) = false) (
   (∀ (x : AV), x ∈ [AV.val (Value.int IntKind.u8 (IntKind.wrap IntKind.u8 (Int.fdiv p (256 : Int)))), AV.val (Value.int IntKind.u8 (IntKind.wrap IntKind.u8 p))] → isByteAV x) ::
   (∀ (x : AV), x ∈ [AV.val (Value.int IntKind.u8 1), AV.val (Value.int IntKind.u8 0)] → isByteAV x) ::
   (SameO (some (tdO0 p)) (tdO0 p)) ::
   (∀ (x : AV), x ∈ [AV.val (Value.int IntKind.u8 0), AV.val (Value.int IntKind.u8 1)] → isByteAV x) ::
   (SameO (some (tdO59 p)) (tdO59 p)) ::
   (∀ (x : AV), x ∈ [AV.val (Value.int IntKind.u8 0), AV.val (Value.int IntKind.u8 0)] → isByteAV x) ::
   (SameO (some (tdO60 p)) (tdO60 p)) ::
   (∀ (x : AV), x ∈ [AV.val (Value.int IntKind.u8 0), AV.val (Value.int IntKind.u8 0)] → isByteAV x) ::
   (SameO (some (tdO61 p)) (tdO61 p)) ::
   (∀ (x : AV), x ∈ [AV.val (Value.int IntKind.u8 0), AV.val (Value.int IntKind.u8 0)] → isByteAV x) ::
   (SameO (some (tdO62 p)) (tdO62 p)) ::
   rp 6 (true = true) (
   (SameO (some (tdO63 v)) (tdO63 v)) ::
   (SameO (some (tdO64 p)) (tdO64 p)) ::
   (∀ (x : AV), x ∈ [AV.val (Value.int IntKind.u8 0), AV.val (Value.int IntKind.u8 1)] → isByteAV x) ::
   (SameO (some (tdO65 v p)) (tdO65 v p)) ::
   (∀ (x : AV), x ∈ [AV.val (Value.int IntKind.u8 0), AV.val (Value.int IntKind.u8 1)] → isByteAV x) ::
   (SameO (some (tdO66 v p)) (tdO66 v p)) ::
   rp 3 (SameO (some (tdO67 v p)) (tdO67 v p)) (
   (∀ (x : AV), x ∈ [AV.val (Value.int IntKind.u8 11), AV.val (Value.int IntKind.u8 184)] → isByteAV x) ::
   (∀ (x : AV), x ∈ [AV.val (Value.int IntKind.u8 0), AV.val (Value.int IntKind.u8 53)] → isByteAV x) ::
   rp 2 (∀ (x : AV), x ∈ [AV.val (Value.int IntKind.u8 0), AV.val (Value.int IntKind.u8 28)] → isByteAV x) (
   (40 ≤ 40) ::
   (40 ≤ 100000000) ::
   ((↑(ofL [192, 168, 1, 77, 192, 168, 1, 1, 0, 17, 0, 28, 11, 184, 0, 53, 0, 28, 0, 0, UInt8.ofNat (Int.toNat (IntKind.wrap IntKind.u8 (Int.fdiv p (256 : Int)))), UInt8.ofNat (Int.toNat (IntKind.wrap IntKind.u8 p)), 1, 0, 0, 1, 0, 0, 0, 0, 0, 0, 2, 110, UInt8.ofNat (Int.toNat (IntKind.wrap IntKind.u8 (IntKind.wrap IntKind.i64 ((97 : Int) + bits BinOp.and IntKind.i64 v (15 : Int))))), 0, 0, 1, 0, 1]) : Int) = s1) ::
   ((s1 == (0 : Int)) = true) ::
   (∀ (x : AV), x ∈ [AV.val (Value.int IntKind.u8 0), AV.val (Value.int IntKind.u8 48)] → isByteAV x) ::
   rp 2 (∀ (x : AV), x ∈ [AV.val (Value.int IntKind.u8 0), AV.val (Value.int IntKind.u8 0)] → isByteAV x) (
   (20 ≤ 20) ::
   ((63262 : Int) = s2) ::
   (10 < 20) ::
   (isByteAV (AV.val (Value.int IntKind.u8 (IntKind.wrap IntKind.u8 (Int.fdiv s2 (256 : Int)))))) ::
   (11 < 20) ::
   (isByteAV (AV.val (Value.int IntKind.u8 (IntKind.wrap IntKind.u8 s2)))) ::
   (SameO (some (tdO74 v p s2)) (tdO74 v p s2)) ::
   (SameO (some tdO75) tdO75) ::
   (∀ (x : AV), x ∈ [AV.val (Value.int IntKind.u8 8), AV.val (Value.int IntKind.u8 0)] → isByteAV x) ::
   (SameO (some (tdO76 v p)) (tdO76 v p)) ::
   (SameO (some tdO5) tdO5) ::
   ((!ofL [69, 0, 0, 48, 0, 0, 0, 0, 64, 17, UInt8.ofNat (Int.toNat (IntKind.wrap IntKind.u8 (Int.fdiv s2 (256 : Int)))), UInt8.ofNat (Int.toNat (IntKind.wrap IntKind.u8 s2)), 192, 168, 1, 77, 192, 168, 1, 1] == 0) = true) ::
   (SameO (some (tdO78 v p s2)) (tdO78 v p s2)) ::
   (SameO (some tdO13) tdO13) ::
   (SameO (some tdO14) tdO14) ::
   (SameO (some tdO15) tdO15) ::
   (SameO (some tdO16) tdO16) ::
   (SameO (some tdO17) tdO17) ::
   (SameO (some tdO18) tdO18) ::
   (SameO (some tdO19) tdO19) ::
   (SameO (some tdO20) tdO20) ::
   (SameO (some tdO21) tdO21) ::
   (SameO (some tdO22) tdO22) ::
   (SameO (some tdO23) tdO23) ::
   (SameO (some tdO24) tdO24) ::
   (SameO (some tdO25) tdO25) ::
   (SameO (some tdO26) tdO26) :: []))))))))) := by kernel_rfl
end Go.Proofs.YtbpofglponmpnaaGreatDoor
