/- Several texts in one: TdRun2, TdRun3. -/
import Derived.Test.YtbpofglponmpnaaGreatDoorMtdo

/- TopDead, reckoned on some of its ways. (Printed by wip/sym/dead.py and foldo.py.) -/
namespace Go.Proofs.YtbpofglponmpnaaGreatDoor
open Go.RowKit

set_option maxRecDepth 100000 in
theorem topDead_4_n_ok67 (n : Int) (v : Int) (p : Int) (q : Int) (draw : Int) (secs : Int) (b : List UInt8) (s1 : Int) (s2 : Int) : outT (kDead s1 s2) [(63, { op := [(1, 8, .keep)], ob := [(1, 8)] }),
   (285, { br := [(39, false)], ob := [(9, 3)] }),
   (189, { op := [(3, 21, .br false), (3, 22, .br true)], gd := [(3, 8, true), (3, 9, true), (3, 10, true), (3, 11, true), (3, 12, true), (3, 13, true), (3, 14, true), (3, 15, true), (3, 16, true), (3, 17, false), (3, 18, false), (3, 19, false), (3, 20, false), (3, 21, true)], br := [(38, false)], ob := [(2, 1)] }),
   (188, { ob := [(1, 1), (4, 3), (5, 1), (6, 1), (7, 1), (8, 1), (9, 1), (11, 1), (11, 3), (12, 1), (13, 1), (14, 1), (15, 3), (16, 2), (16, 3)] }),
   (57, { ob := [(1, 1), (4, 4)] }),
   (278, { op := [(1, 2, .keep)], ob := [(1, 2), (1, 5), (2, 7)] }),
   (179, { ob := [(2, 2)] }),
   (81, { op := [(5, 2, .keep)], ob := [(5, 2)] }),
   (16, { ob := [(1, 1), (8, 3)] }),
   (15, { op := [(24, 13, .keep)], ob := [(24, 13)] }),
   (173, { ob := [(1, 6)] }),
   (77, { ob := [(1, 2), (5, 3)] }),
   (73, { ob := [(5, 1), (6, 1), (6, 3), (6, 5), (7, 2), (7, 3)] }),
   (71, { ob := [(12, 3), (14, 1), (15, 8), (15, 10)] }),
   (327, { ob := [(1, 6), (2, 7)] }),
   (326, { ob := [(7, 1)] }),
   (6, { op := [(7, 15, .keep)], ob := [(7, 15)] }),
   (3, { br := [(10, false)] }),
   (66, { ob := [(1, 8)] }),
   (162, { op := [(1, 9, .br false), (6, 5, .keep)], gd := [(1, 5, false), (1, 6, false), (1, 7, false), (1, 8, false)], br := [(17, false), (47, false)], ob := [(6, 5), (7, 5), (9, 2), (12, 8), (12, 10)] }),
   (288, { op := [(16, 5, .keep), (16, 11, .keep), (16, 13, .br true)], gd := [(16, 3, true), (16, 4, true), (16, 5, true), (16, 6, true), (16, 7, true), (16, 8, true), (16, 9, true), (16, 10, true), (16, 11, true), (16, 12, true)], br := [(48, false)], ob := [(3, 1), (7, 2), (8, 1), (9, 1), (10, 1), (11, 1), (16, 5), (16, 11), (18, 3)] })] Tryz.prog 3 [AV.agg [AV.val (Value.int IntKind.i64 4), AV.val (Value.int IntKind.i64 n), AV.val (Value.int IntKind.i64 v), AV.val (Value.int IntKind.i64 p), AV.val (Value.int IntKind.i64 q), AV.val (Value.int IntKind.u32 draw), AV.val (Value.int IntKind.u32 secs), AV.bytes b]] [] 0 =
   some (AV.val (Value.bool true), [], 120799,
   (decide ((↑(List.length b) : Int) > (1600 : Int)) = false) ::
   rp 5 ((!(decide ((0 : Int) ≤ p) && decide (p ≤ (65535 : Int)))) = false) (
   ((!(decide ((0 : Int) ≤ q) && decide (q ≤ (65535 : Int)))) = false) ::
   (∀ (x : AV), x ∈ [AV.val (Value.int IntKind.u8 (IntKind.wrap IntKind.u8 (Int.fdiv p (256 : Int)))), AV.val (Value.int IntKind.u8 (IntKind.wrap IntKind.u8 p))] → isByteAV x) ::
   (∀ (x : AV), x ∈ [AV.val (Value.int IntKind.u8 (IntKind.wrap IntKind.u8 (Int.fdiv q (256 : Int)))), AV.val (Value.int IntKind.u8 (IntKind.wrap IntKind.u8 q))] → isByteAV x) ::
   (SameO (some (tdO0 p)) (tdO0 p)) ::
   (∀ (x : AV), x ∈ [AV.val (Value.int IntKind.u8 0), AV.val (Value.int IntKind.u8 12)] → isByteAV x) ::
   (SameO (some (tdO1 v)) (tdO1 v)) ::
   (14 ≤ 16 ∧ 16 ≤ 16 ∧ ∀ (x : AV), x ∈ [AV.val (Value.int IntKind.u8 8), AV.val (Value.int IntKind.u8 8), AV.val (Value.int IntKind.u8 4), AV.val (Value.int IntKind.u8 (IntKind.wrap IntKind.u8 v))] → isByteAV x) ::
   (4 = 4 ∧ 4 + 4 ≤ 1000000000) ::
   (∀ (x : AV), x ∈ [AV.val (Value.int IntKind.u8 0), AV.val (Value.int IntKind.u8 12)] → isByteAV x) ::
   (24 ≤ 24) ::
   (24 ≤ 100000000) ::
   ((↑(ofL [192, 168, 1, 77, 8, 8, 4, UInt8.ofNat (Int.toNat (IntKind.wrap IntKind.u8 v)), 0, 17, 0, 12, UInt8.ofNat (Int.toNat (IntKind.wrap IntKind.u8 (Int.fdiv p (256 : Int)))), UInt8.ofNat (Int.toNat (IntKind.wrap IntKind.u8 p)), UInt8.ofNat (Int.toNat (IntKind.wrap IntKind.u8 (Int.fdiv q (256 : Int)))), UInt8.ofNat (Int.toNat (IntKind.wrap IntKind.u8 q)), 0, 12, 0, 0, 100, 97, 116, 97]) : Int) = s1) ::
   ((s1 == (0 : Int)) = false) ::
   (6 < 12) ::
   (isByteAV (AV.val (Value.int IntKind.u8 (IntKind.wrap IntKind.u8 (Int.fdiv s1 (256 : Int)))))) ::
   (7 < 12) ::
   (isByteAV (AV.val (Value.int IntKind.u8 (IntKind.wrap IntKind.u8 s1)))) ::
   (∀ (x : AV), x ∈ [AV.val (Value.int IntKind.u8 0), AV.val (Value.int IntKind.u8 32)] → isByteAV x) ::
   rp 2 (∀ (x : AV), x ∈ [AV.val (Value.int IntKind.u8 0), AV.val (Value.int IntKind.u8 0)] → isByteAV x) (
   (14 ≤ 16 ∧ 16 ≤ 16 ∧ ∀ (x : AV), x ∈ [AV.val (Value.int IntKind.u8 8), AV.val (Value.int IntKind.u8 8), AV.val (Value.int IntKind.u8 4), AV.val (Value.int IntKind.u8 (IntKind.wrap IntKind.u8 v))] → isByteAV x) ::
   (16 = 16 ∧ 16 + 4 ≤ 1000000000) ::
   (20 ≤ 20) ::
   ((↑(ofL [69, 0, 0, 32, 0, 0, 0, 0, 64, 17, 0, 0, 192, 168, 1, 77, 8, 8, 4, UInt8.ofNat (Int.toNat (IntKind.wrap IntKind.u8 v))]) : Int) = s2) ::
   (10 < 20) ::
   (isByteAV (AV.val (Value.int IntKind.u8 (IntKind.wrap IntKind.u8 (Int.fdiv s2 (256 : Int)))))) ::
   (11 < 20) ::
   (isByteAV (AV.val (Value.int IntKind.u8 (IntKind.wrap IntKind.u8 s2)))) ::
   (SameO (some (tdO2 v p q s1 s2)) (tdO2 v p q s1 s2)) ::
   (SameO (some tdO3) tdO3) ::
   (∀ (x : AV), x ∈ [AV.val (Value.int IntKind.u8 8), AV.val (Value.int IntKind.u8 0)] → isByteAV x) ::
   (SameO (some (tdO4 p q s1)) (tdO4 p q s1)) ::
   (SameO (some tdO5) tdO5) ::
   (SameO (some (tdO4 p q s1)) (tdO4 p q s1)) ::
   (SameO (some tdO5) tdO5) ::
   (SameO (some tdO6) tdO6) ::
   (SameO (some tdO7) tdO7) ::
   (SameO (some tdO8) tdO8) ::
   (SameO (some tdO9) tdO9) ::
   (SameO (some tdO10) tdO10) ::
   (SameO (some tdO11) tdO11) ::
   ((!ofL [69, 0, 0, 32, 0, 0, 0, 0, 64, 17, UInt8.ofNat (Int.toNat (IntKind.wrap IntKind.u8 (Int.fdiv s2 (256 : Int)))), UInt8.ofNat (Int.toNat (IntKind.wrap IntKind.u8 s2)), 192, 168, 1, 77, 8, 8, 4, UInt8.ofNat (Int.toNat (IntKind.wrap IntKind.u8 v))] == 0) = false) ::
   rp 3 (((↑(UInt8.toNat (UInt8.ofNat (Int.toNat (IntKind.wrap IntKind.u8 (Int.fdiv s1 (256 : Int))))) * 256 + UInt8.toNat (UInt8.ofNat (Int.toNat (IntKind.wrap IntKind.u8 s1)))) : Int) != (0 : Int)) = true) (
   (14 ≤ 16 ∧ 16 ≤ 16 ∧ ∀ (x : AV), x ∈ [AV.val (Value.int IntKind.u8 (IntKind.wrap IntKind.u8 (Int.fdiv (↑(((UInt8.toNat 8 * 256 + UInt8.toNat 8) * 256 + UInt8.toNat 4) * 256 + UInt8.toNat (UInt8.ofNat (Int.toNat (IntKind.wrap IntKind.u8 v)))) : Int) (16777216 : Int)))), AV.val (Value.int IntKind.u8 (IntKind.wrap IntKind.u8 (Int.fdiv (↑(((UInt8.toNat 8 * 256 + UInt8.toNat 8) * 256 + UInt8.toNat 4) * 256 + UInt8.toNat (UInt8.ofNat (Int.toNat (IntKind.wrap IntKind.u8 v)))) : Int) (65536 : Int)))), AV.val (Value.int IntKind.u8 (IntKind.wrap IntKind.u8 (Int.fdiv (↑(((UInt8.toNat 8 * 256 + UInt8.toNat 8) * 256 + UInt8.toNat 4) * 256 + UInt8.toNat (UInt8.ofNat (Int.toNat (IntKind.wrap IntKind.u8 v)))) : Int) (256 : Int)))), AV.val (Value.int IntKind.u8 (IntKind.wrap IntKind.u8 (↑(((UInt8.toNat 8 * 256 + UInt8.toNat 8) * 256 + UInt8.toNat 4) * 256 + UInt8.toNat (UInt8.ofNat (Int.toNat (IntKind.wrap IntKind.u8 v)))) : Int)))] → isByteAV x) ::
   (4 = 4 ∧ 4 + 4 ≤ 1000000000) ::
   (SameO (some (tdO4 p q s1)) (tdO4 p q s1)) ::
   (SameO (some tdO5) tdO5) ::
   rp 6 (((↑(UInt8.toNat (UInt8.ofNat (Int.toNat (IntKind.wrap IntKind.u8 (Int.fdiv s1 (256 : Int))))) * 256 + UInt8.toNat (UInt8.ofNat (Int.toNat (IntKind.wrap IntKind.u8 s1)))) : Int) != (0 : Int)) = true) (
   (SameO (some (tdO4 p q s1)) (tdO4 p q s1)) ::
   (SameO (some (tdO27 v)) (tdO27 v)) ::
   (SameO (some tdO28) tdO28) ::
   rp 2 (((↑(UInt8.toNat (UInt8.ofNat (Int.toNat (IntKind.wrap IntKind.u8 (Int.fdiv s1 (256 : Int))))) * 256 + UInt8.toNat (UInt8.ofNat (Int.toNat (IntKind.wrap IntKind.u8 s1)))) : Int) != (0 : Int)) = true) (
   (((↑(ofL (psB 192 168 1 77 8 8 4 (UInt8.ofNat (Int.toNat (IntKind.wrap IntKind.u8 v))) [0, 17, 0, 12, UInt8.ofNat (Int.toNat (IntKind.wrap IntKind.u8 (Int.fdiv p (256 : Int)))), UInt8.ofNat (Int.toNat (IntKind.wrap IntKind.u8 p)), UInt8.ofNat (Int.toNat (IntKind.wrap IntKind.u8 (Int.fdiv q (256 : Int)))), UInt8.ofNat (Int.toNat (IntKind.wrap IntKind.u8 q)), 0, 12, UInt8.ofNat (Int.toNat (IntKind.wrap IntKind.u8 (Int.fdiv s1 (256 : Int)))), UInt8.ofNat (Int.toNat (IntKind.wrap IntKind.u8 s1)), 100, 97, 116, 97])) : Int) != (0 : Int)) = false) ::
   rp 9 (((↑(UInt8.toNat (UInt8.ofNat (Int.toNat (IntKind.wrap IntKind.u8 (Int.fdiv q (256 : Int))))) * 256 + UInt8.toNat (UInt8.ofNat (Int.toNat (IntKind.wrap IntKind.u8 q)))) : Int) == (67 : Int)) = true) (
   rp 4 ((IntKind.wrap IntKind.u8 (Int.fdiv (↑(((UInt8.toNat 8 * 256 + UInt8.toNat 8) * 256 + UInt8.toNat 4) * 256 + UInt8.toNat (UInt8.ofNat (Int.toNat (IntKind.wrap IntKind.u8 v)))) : Int) (16777216 : Int)) == (192 : Int) && (IntKind.wrap IntKind.u8 (Int.fdiv (↑(((UInt8.toNat 8 * 256 + UInt8.toNat 8) * 256 + UInt8.toNat 4) * 256 + UInt8.toNat (UInt8.ofNat (Int.toNat (IntKind.wrap IntKind.u8 v)))) : Int) (65536 : Int)) == (168 : Int) && (IntKind.wrap IntKind.u8 (Int.fdiv (↑(((UInt8.toNat 8 * 256 + UInt8.toNat 8) * 256 + UInt8.toNat 4) * 256 + UInt8.toNat (UInt8.ofNat (Int.toNat (IntKind.wrap IntKind.u8 v)))) : Int) (256 : Int)) == (1 : Int) && (IntKind.wrap IntKind.u8 (↑(((UInt8.toNat 8 * 256 + UInt8.toNat 8) * 256 + UInt8.toNat 4) * 256 + UInt8.toNat (UInt8.ofNat (Int.toNat (IntKind.wrap IntKind.u8 v)))) : Int) == (1 : Int) && true)))) = false) (
   (((↑(UInt8.toNat (UInt8.ofNat (Int.toNat (IntKind.wrap IntKind.u8 (Int.fdiv q (256 : Int))))) * 256 + UInt8.toNat (UInt8.ofNat (Int.toNat (IntKind.wrap IntKind.u8 q)))) : Int) == (67 : Int)) = true) ::
   ((IntKind.wrap IntKind.u8 (Int.fdiv (↑(((UInt8.toNat 8 * 256 + UInt8.toNat 8) * 256 + UInt8.toNat 4) * 256 + UInt8.toNat (UInt8.ofNat (Int.toNat (IntKind.wrap IntKind.u8 v)))) : Int) (16777216 : Int)) == (192 : Int) && (IntKind.wrap IntKind.u8 (Int.fdiv (↑(((UInt8.toNat 8 * 256 + UInt8.toNat 8) * 256 + UInt8.toNat 4) * 256 + UInt8.toNat (UInt8.ofNat (Int.toNat (IntKind.wrap IntKind.u8 v)))) : Int) (65536 : Int)) == (168 : Int) && (IntKind.wrap IntKind.u8 (Int.fdiv (↑(((UInt8.toNat 8 * 256 + UInt8.toNat 8) * 256 + UInt8.toNat 4) * 256 + UInt8.toNat (UInt8.ofNat (Int.toNat (IntKind.wrap IntKind.u8 v)))) : Int) (256 : Int)) == (1 : Int) && (IntKind.wrap IntKind.u8 (↑(((UInt8.toNat 8 * 256 + UInt8.toNat 8) * 256 + UInt8.toNat 4) * 256 + UInt8.toNat (UInt8.ofNat (Int.toNat (IntKind.wrap IntKind.u8 v)))) : Int) == (1 : Int) && true)))) = false) ::
   (((↑(UInt8.toNat (UInt8.ofNat (Int.toNat (IntKind.wrap IntKind.u8 (Int.fdiv q (256 : Int))))) * 256 + UInt8.toNat (UInt8.ofNat (Int.toNat (IntKind.wrap IntKind.u8 q)))) : Int) == (67 : Int)) = true) ::
   ((IntKind.wrap IntKind.u8 (Int.fdiv (↑(((UInt8.toNat 8 * 256 + UInt8.toNat 8) * 256 + UInt8.toNat 4) * 256 + UInt8.toNat (UInt8.ofNat (Int.toNat (IntKind.wrap IntKind.u8 v)))) : Int) (16777216 : Int)) == (255 : Int) && (IntKind.wrap IntKind.u8 (Int.fdiv (↑(((UInt8.toNat 8 * 256 + UInt8.toNat 8) * 256 + UInt8.toNat 4) * 256 + UInt8.toNat (UInt8.ofNat (Int.toNat (IntKind.wrap IntKind.u8 v)))) : Int) (65536 : Int)) == (255 : Int) && (IntKind.wrap IntKind.u8 (Int.fdiv (↑(((UInt8.toNat 8 * 256 + UInt8.toNat 8) * 256 + UInt8.toNat 4) * 256 + UInt8.toNat (UInt8.ofNat (Int.toNat (IntKind.wrap IntKind.u8 v)))) : Int) (256 : Int)) == (255 : Int) && (IntKind.wrap IntKind.u8 (↑(((UInt8.toNat 8 * 256 + UInt8.toNat 8) * 256 + UInt8.toNat 4) * 256 + UInt8.toNat (UInt8.ofNat (Int.toNat (IntKind.wrap IntKind.u8 v)))) : Int) == (255 : Int) && true)))) = false) ::
   (SameO (some (tdO12 v p q s1 s2)) (tdO12 v p q s1 s2)) ::
   (SameO (some tdO13) tdO13) ::
   (SameO (some tdO14) tdO14) ::
   (SameO (some tdO15) tdO15) ::
   (SameO (some tdO16) tdO16) ::
   (SameO (some tdO17) tdO17) ::
   (SameO (some tdO18) tdO18) ::
   (SameO (some tdO19) tdO19) ::
   (SameO (some tdO20) tdO20) ::
   (SameO (some tdO21) tdO21) ::
   (SameO (some tdO22) tdO22) ::
   (SameO (some tdO23) tdO23) ::
   (SameO (some tdO24) tdO24) ::
   (SameO (some tdO25) tdO25) ::
   (SameO (some tdO26) tdO26) :: [])))))))) := by kernel_rfl

set_option maxRecDepth 100000 in
theorem topDead_4_m_ok67 (n : Int) (v : Int) (p : Int) (q : Int) (draw : Int) (secs : Int) (b : List UInt8) (s1 : Int) (s2 : Int) : outT (kDead s1 s2) [(63, { op := [(1, 8, .keep)], ob := [(1, 8)] }),
   (285, { br := [(39, false)], ob := [(9, 3)] }),
   (189, { op := [(3, 21, .br false), (3, 22, .br true)], gd := [(3, 8, true), (3, 9, true), (3, 10, true), (3, 11, true), (3, 12, true), (3, 13, true), (3, 14, true), (3, 15, true), (3, 16, true), (3, 17, false), (3, 18, false), (3, 19, false), (3, 20, false), (3, 21, true)], br := [(38, false)], ob := [(2, 1)] }),
   (188, { ob := [(1, 1), (4, 3), (5, 1), (6, 1), (7, 1), (8, 1), (9, 1), (11, 1), (11, 3), (12, 1), (13, 1), (14, 1), (15, 3), (16, 2), (16, 3)] }),
   (57, { ob := [(1, 1), (4, 4)] }),
   (278, { op := [(1, 2, .keep)], ob := [(1, 2), (1, 5), (2, 7)] }),
   (179, { ob := [(2, 2)] }),
   (81, { op := [(5, 2, .keep)], ob := [(5, 2)] }),
   (16, { ob := [(1, 1), (8, 3)] }),
   (15, { op := [(24, 13, .keep)], ob := [(24, 13)] }),
   (173, { ob := [(1, 6)] }),
   (77, { ob := [(1, 2), (5, 3)] }),
   (73, { ob := [(5, 1), (6, 1), (6, 3), (6, 5), (7, 2), (7, 3)] }),
   (71, { ob := [(12, 3), (14, 1), (15, 8), (15, 10)] }),
   (6, { op := [(7, 15, .keep)], ob := [(7, 15)] }),
   (3, { br := [(10, false)] }),
   (66, { ob := [(1, 8)] }),
   (162, { op := [(1, 9, .br false), (6, 5, .keep)], gd := [(1, 5, false), (1, 6, false), (1, 7, false), (1, 8, false)], br := [(17, false), (47, false)], ob := [(6, 5), (7, 5), (9, 2), (12, 8), (12, 10)] }),
   (288, { op := [(16, 13, .br false)], gd := [(16, 3, false), (16, 4, false), (16, 5, false), (16, 6, false), (16, 7, false), (16, 8, false), (16, 9, false), (16, 10, false), (16, 11, false), (16, 12, false)], ob := [(3, 1), (7, 2), (8, 1), (9, 1), (10, 1), (11, 1), (18, 3)] })] Tryz.prog 3 [AV.agg [AV.val (Value.int IntKind.i64 4), AV.val (Value.int IntKind.i64 n), AV.val (Value.int IntKind.i64 v), AV.val (Value.int IntKind.i64 p), AV.val (Value.int IntKind.i64 q), AV.val (Value.int IntKind.u32 draw), AV.val (Value.int IntKind.u32 secs), AV.bytes b]] [] 0 =
   some (AV.val (Value.bool true), [], 120739,
   (decide ((↑(List.length b) : Int) > (1600 : Int)) = false) ::
   rp 5 ((!(decide ((0 : Int) ≤ p) && decide (p ≤ (65535 : Int)))) = false) (
   ((!(decide ((0 : Int) ≤ q) && decide (q ≤ (65535 : Int)))) = false) ::
   (∀ (x : AV), x ∈ [AV.val (Value.int IntKind.u8 (IntKind.wrap IntKind.u8 (Int.fdiv p (256 : Int)))), AV.val (Value.int IntKind.u8 (IntKind.wrap IntKind.u8 p))] → isByteAV x) ::
   (∀ (x : AV), x ∈ [AV.val (Value.int IntKind.u8 (IntKind.wrap IntKind.u8 (Int.fdiv q (256 : Int)))), AV.val (Value.int IntKind.u8 (IntKind.wrap IntKind.u8 q))] → isByteAV x) ::
   (SameO (some (tdO0 p)) (tdO0 p)) ::
   (∀ (x : AV), x ∈ [AV.val (Value.int IntKind.u8 0), AV.val (Value.int IntKind.u8 12)] → isByteAV x) ::
   (SameO (some (tdO1 v)) (tdO1 v)) ::
   (14 ≤ 16 ∧ 16 ≤ 16 ∧ ∀ (x : AV), x ∈ [AV.val (Value.int IntKind.u8 8), AV.val (Value.int IntKind.u8 8), AV.val (Value.int IntKind.u8 4), AV.val (Value.int IntKind.u8 (IntKind.wrap IntKind.u8 v))] → isByteAV x) ::
   (4 = 4 ∧ 4 + 4 ≤ 1000000000) ::
   (∀ (x : AV), x ∈ [AV.val (Value.int IntKind.u8 0), AV.val (Value.int IntKind.u8 12)] → isByteAV x) ::
   (24 ≤ 24) ::
   (24 ≤ 100000000) ::
   ((↑(ofL [192, 168, 1, 77, 8, 8, 4, UInt8.ofNat (Int.toNat (IntKind.wrap IntKind.u8 v)), 0, 17, 0, 12, UInt8.ofNat (Int.toNat (IntKind.wrap IntKind.u8 (Int.fdiv p (256 : Int)))), UInt8.ofNat (Int.toNat (IntKind.wrap IntKind.u8 p)), UInt8.ofNat (Int.toNat (IntKind.wrap IntKind.u8 (Int.fdiv q (256 : Int)))), UInt8.ofNat (Int.toNat (IntKind.wrap IntKind.u8 q)), 0, 12, 0, 0, 100, 97, 116, 97]) : Int) = s1) ::
   ((s1 == (0 : Int)) = false) ::
   (6 < 12) ::
   (isByteAV (AV.val (Value.int IntKind.u8 (IntKind.wrap IntKind.u8 (Int.fdiv s1 (256 : Int)))))) ::
   (7 < 12) ::
   (isByteAV (AV.val (Value.int IntKind.u8 (IntKind.wrap IntKind.u8 s1)))) ::
   (∀ (x : AV), x ∈ [AV.val (Value.int IntKind.u8 0), AV.val (Value.int IntKind.u8 32)] → isByteAV x) ::
   rp 2 (∀ (x : AV), x ∈ [AV.val (Value.int IntKind.u8 0), AV.val (Value.int IntKind.u8 0)] → isByteAV x) (
   (14 ≤ 16 ∧ 16 ≤ 16 ∧ ∀ (x : AV), x ∈ [AV.val (Value.int IntKind.u8 8), AV.val (Value.int IntKind.u8 8), AV.val (Value.int IntKind.u8 4), AV.val (Value.int IntKind.u8 (IntKind.wrap IntKind.u8 v))] → isByteAV x) ::
   (16 = 16 ∧ 16 + 4 ≤ 1000000000) ::
   (20 ≤ 20) ::
   ((↑(ofL [69, 0, 0, 32, 0, 0, 0, 0, 64, 17, 0, 0, 192, 168, 1, 77, 8, 8, 4, UInt8.ofNat (Int.toNat (IntKind.wrap IntKind.u8 v))]) : Int) = s2) ::
   (10 < 20) ::
   (isByteAV (AV.val (Value.int IntKind.u8 (IntKind.wrap IntKind.u8 (Int.fdiv s2 (256 : Int)))))) ::
   (11 < 20) ::
   (isByteAV (AV.val (Value.int IntKind.u8 (IntKind.wrap IntKind.u8 s2)))) ::
   (SameO (some (tdO2 v p q s1 s2)) (tdO2 v p q s1 s2)) ::
   (SameO (some tdO3) tdO3) ::
   (∀ (x : AV), x ∈ [AV.val (Value.int IntKind.u8 8), AV.val (Value.int IntKind.u8 0)] → isByteAV x) ::
   (SameO (some (tdO4 p q s1)) (tdO4 p q s1)) ::
   (SameO (some tdO5) tdO5) ::
   (SameO (some (tdO4 p q s1)) (tdO4 p q s1)) ::
   (SameO (some tdO5) tdO5) ::
   (SameO (some tdO6) tdO6) ::
   (SameO (some tdO7) tdO7) ::
   (SameO (some tdO8) tdO8) ::
   (SameO (some tdO9) tdO9) ::
   (SameO (some tdO10) tdO10) ::
   (SameO (some tdO11) tdO11) ::
   ((!ofL [69, 0, 0, 32, 0, 0, 0, 0, 64, 17, UInt8.ofNat (Int.toNat (IntKind.wrap IntKind.u8 (Int.fdiv s2 (256 : Int)))), UInt8.ofNat (Int.toNat (IntKind.wrap IntKind.u8 s2)), 192, 168, 1, 77, 8, 8, 4, UInt8.ofNat (Int.toNat (IntKind.wrap IntKind.u8 v))] == 0) = false) ::
   rp 11 (((↑(UInt8.toNat (UInt8.ofNat (Int.toNat (IntKind.wrap IntKind.u8 (Int.fdiv s1 (256 : Int))))) * 256 + UInt8.toNat (UInt8.ofNat (Int.toNat (IntKind.wrap IntKind.u8 s1)))) : Int) != (0 : Int)) = false) (
   rp 9 (((↑(UInt8.toNat (UInt8.ofNat (Int.toNat (IntKind.wrap IntKind.u8 (Int.fdiv q (256 : Int))))) * 256 + UInt8.toNat (UInt8.ofNat (Int.toNat (IntKind.wrap IntKind.u8 q)))) : Int) == (67 : Int)) = true) (
   rp 4 ((IntKind.wrap IntKind.u8 (Int.fdiv (↑(((UInt8.toNat 8 * 256 + UInt8.toNat 8) * 256 + UInt8.toNat 4) * 256 + UInt8.toNat (UInt8.ofNat (Int.toNat (IntKind.wrap IntKind.u8 v)))) : Int) (16777216 : Int)) == (192 : Int) && (IntKind.wrap IntKind.u8 (Int.fdiv (↑(((UInt8.toNat 8 * 256 + UInt8.toNat 8) * 256 + UInt8.toNat 4) * 256 + UInt8.toNat (UInt8.ofNat (Int.toNat (IntKind.wrap IntKind.u8 v)))) : Int) (65536 : Int)) == (168 : Int) && (IntKind.wrap IntKind.u8 (Int.fdiv (↑(((UInt8.toNat 8 * 256 + UInt8.toNat 8) * 256 + UInt8.toNat 4) * 256 + UInt8.toNat (UInt8.ofNat (Int.toNat (IntKind.wrap IntKind.u8 v)))) : Int) (256 : Int)) == (1 : Int) && (IntKind.wrap IntKind.u8 (↑(((UInt8.toNat 8 * 256 + UInt8.toNat 8) * 256 + UInt8.toNat 4) * 256 + UInt8.toNat (UInt8.ofNat (Int.toNat (IntKind.wrap IntKind.u8 v)))) : Int) == (1 : Int) && true)))) = false) (
   (((↑(UInt8.toNat (UInt8.ofNat (Int.toNat (IntKind.wrap IntKind.u8 (Int.fdiv q (256 : Int))))) * 256 + UInt8.toNat (UInt8.ofNat (Int.toNat (IntKind.wrap IntKind.u8 q)))) : Int) == (67 : Int)) = true) ::
   ((IntKind.wrap IntKind.u8 (Int.fdiv (↑(((UInt8.toNat 8 * 256 + UInt8.toNat 8) * 256 + UInt8.toNat 4) * 256 + UInt8.toNat (UInt8.ofNat (Int.toNat (IntKind.wrap IntKind.u8 v)))) : Int) (16777216 : Int)) == (192 : Int) && (IntKind.wrap IntKind.u8 (Int.fdiv (↑(((UInt8.toNat 8 * 256 + UInt8.toNat 8) * 256 + UInt8.toNat 4) * 256 + UInt8.toNat (UInt8.ofNat (Int.toNat (IntKind.wrap IntKind.u8 v)))) : Int) (65536 : Int)) == (168 : Int) && (IntKind.wrap IntKind.u8 (Int.fdiv (↑(((UInt8.toNat 8 * 256 + UInt8.toNat 8) * 256 + UInt8.toNat 4) * 256 + UInt8.toNat (UInt8.ofNat (Int.toNat (IntKind.wrap IntKind.u8 v)))) : Int) (256 : Int)) == (1 : Int) && (IntKind.wrap IntKind.u8 (↑(((UInt8.toNat 8 * 256 + UInt8.toNat 8) * 256 + UInt8.toNat 4) * 256 + UInt8.toNat (UInt8.ofNat (Int.toNat (IntKind.wrap IntKind.u8 v)))) : Int) == (1 : Int) && true)))) = false) ::
   (((↑(UInt8.toNat (UInt8.ofNat (Int.toNat (IntKind.wrap IntKind.u8 (Int.fdiv q (256 : Int))))) * 256 + UInt8.toNat (UInt8.ofNat (Int.toNat (IntKind.wrap IntKind.u8 q)))) : Int) == (67 : Int)) = true) ::
   ((IntKind.wrap IntKind.u8 (Int.fdiv (↑(((UInt8.toNat 8 * 256 + UInt8.toNat 8) * 256 + UInt8.toNat 4) * 256 + UInt8.toNat (UInt8.ofNat (Int.toNat (IntKind.wrap IntKind.u8 v)))) : Int) (16777216 : Int)) == (255 : Int) && (IntKind.wrap IntKind.u8 (Int.fdiv (↑(((UInt8.toNat 8 * 256 + UInt8.toNat 8) * 256 + UInt8.toNat 4) * 256 + UInt8.toNat (UInt8.ofNat (Int.toNat (IntKind.wrap IntKind.u8 v)))) : Int) (65536 : Int)) == (255 : Int) && (IntKind.wrap IntKind.u8 (Int.fdiv (↑(((UInt8.toNat 8 * 256 + UInt8.toNat 8) * 256 + UInt8.toNat 4) * 256 + UInt8.toNat (UInt8.ofNat (Int.toNat (IntKind.wrap IntKind.u8 v)))) : Int) (256 : Int)) == (255 : Int) && (IntKind.wrap IntKind.u8 (↑(((UInt8.toNat 8 * 256 + UInt8.toNat 8) * 256 + UInt8.toNat 4) * 256 + UInt8.toNat (UInt8.ofNat (Int.toNat (IntKind.wrap IntKind.u8 v)))) : Int) == (255 : Int) && true)))) = false) ::
   (SameO (some (tdO12 v p q s1 s2)) (tdO12 v p q s1 s2)) ::
   (SameO (some tdO13) tdO13) ::
   (SameO (some tdO14) tdO14) ::
   (SameO (some tdO15) tdO15) ::
   (SameO (some tdO16) tdO16) ::
   (SameO (some tdO17) tdO17) ::
   (SameO (some tdO18) tdO18) ::
   (SameO (some tdO19) tdO19) ::
   (SameO (some tdO20) tdO20) ::
   (SameO (some tdO21) tdO21) ::
   (SameO (some tdO22) tdO22) ::
   (SameO (some tdO23) tdO23) ::
   (SameO (some tdO24) tdO24) ::
   (SameO (some tdO25) tdO25) ::
   (SameO (some tdO26) tdO26) :: [])))))) := by kernel_rfl

set_option maxRecDepth 100000 in
theorem topDead_15_pbad (n : Int) (v : Int) (p : Int) (q : Int) (draw : Int) (secs : Int) (b : List UInt8) : outT kDead0 [(3, { br := [(10, false)] }),
   (162, { op := [(1, 9, .br false)], gd := [(1, 5, false), (1, 6, false), (1, 7, false), (1, 8, false)], br := [(17, true)] })] Tryz.prog 3 [AV.agg [AV.val (Value.int IntKind.i64 15), AV.val (Value.int IntKind.i64 n), AV.val (Value.int IntKind.i64 v), AV.val (Value.int IntKind.i64 p), AV.val (Value.int IntKind.i64 q), AV.val (Value.int IntKind.u32 draw), AV.val (Value.int IntKind.u32 secs), AV.bytes b]] [] 0 =
   some (AV.val (Value.bool true), [], 120101,
   (decide ((↑(List.length b) : Int) > (1600 : Int)) = false) ::
   rp 5 ((!(decide ((0 : Int) ≤ q) && decide (q ≤ (65535 : Int)))) = false) (
   ((!(decide ((0 : Int) ≤ p) && decide (p ≤ (65535 : Int)))) = true) :: [])) := by kernel_rfl

set_option maxRecDepth 100000 in
theorem topDead_15_qbad (n : Int) (v : Int) (p : Int) (q : Int) (draw : Int) (secs : Int) (b : List UInt8) : outT kDead0 [(3, { br := [(10, false)] }),
   (162, { op := [(1, 9, .br true)], gd := [(1, 5, true), (1, 6, true), (1, 7, true), (1, 8, true)] })] Tryz.prog 3 [AV.agg [AV.val (Value.int IntKind.i64 15), AV.val (Value.int IntKind.i64 n), AV.val (Value.int IntKind.i64 v), AV.val (Value.int IntKind.i64 p), AV.val (Value.int IntKind.i64 q), AV.val (Value.int IntKind.u32 draw), AV.val (Value.int IntKind.u32 secs), AV.bytes b]] [] 0 =
   some (AV.val (Value.bool true), [], 120101,
   (decide ((↑(List.length b) : Int) > (1600 : Int)) = false) ::
   rp 5 ((!(decide ((0 : Int) ≤ q) && decide (q ≤ (65535 : Int)))) = true) ( [])) := by kernel_rfl

set_option maxRecDepth 100000 in
theorem topDead_15_n_hbad (n : Int) (v : Int) (p : Int) (q : Int) (draw : Int) (secs : Int) (b : List UInt8) (s1 : Int) (s2 : Int) : outT (kDead s1 s2) [(63, { op := [(1, 8, .keep)], ob := [(1, 8)] }),
   (285, { br := [(39, true)], ob := [(9, 3)] }),
   (188, { ob := [(1, 1)] }),
   (57, { ob := [(1, 1), (4, 4)] }),
   (179, { ob := [(2, 2)] }),
   (81, { op := [(5, 2, .keep)], ob := [(5, 2)] }),
   (16, { ob := [(1, 1), (8, 3)] }),
   (15, { op := [(60, 14, .keep)], ob := [(60, 14)] }),
   (173, { ob := [(1, 6)] }),
   (77, { ob := [(1, 2)] }),
   (73, { ob := [(5, 1), (6, 1), (6, 3), (6, 5), (7, 2), (7, 3)] }),
   (71, { ob := [(15, 8), (15, 10)] }),
   (6, { op := [(7, 15, .keep)], ob := [(7, 15)] }),
   (3, { br := [(10, false)] }),
   (66, { ob := [(1, 8)] }),
   (162, { op := [(1, 9, .br false), (6, 5, .keep)], gd := [(1, 5, false), (1, 6, false), (1, 7, false), (1, 8, false)], br := [(17, false), (47, false)], ob := [(6, 5), (7, 5), (9, 2), (12, 8), (12, 10)] })] Tryz.prog 3 [AV.agg [AV.val (Value.int IntKind.i64 15), AV.val (Value.int IntKind.i64 n), AV.val (Value.int IntKind.i64 v), AV.val (Value.int IntKind.i64 p), AV.val (Value.int IntKind.i64 q), AV.val (Value.int IntKind.u32 draw), AV.val (Value.int IntKind.u32 secs), AV.bytes b]] [] 0 =
   some (AV.val (Value.bool true), [], 118349,
   (decide ((↑(List.length b) : Int) > (1600 : Int)) = false) ::
   rp 5 ((!(decide ((0 : Int) ≤ q) && decide (q ≤ (65535 : Int)))) = false) (
   ((!(decide ((0 : Int) ≤ p) && decide (p ≤ (65535 : Int)))) = false) ::
   (∀ (x : AV), x ∈ [AV.val (Value.int IntKind.u8 (IntKind.wrap IntKind.u8 (Int.fdiv q (256 : Int)))), AV.val (Value.int IntKind.u8 (IntKind.wrap IntKind.u8 q))] → isByteAV x) ::
   (∀ (x : AV), x ∈ [AV.val (Value.int IntKind.u8 (IntKind.wrap IntKind.u8 (Int.fdiv p (256 : Int)))), AV.val (Value.int IntKind.u8 (IntKind.wrap IntKind.u8 p))] → isByteAV x) ::
   (SameO (some (tdO34 q)) (tdO34 q)) ::
   rp 2 (∀ (x : AV), x ∈ [AV.val (Value.int IntKind.u8 0), AV.val (Value.int IntKind.u8 12)] → isByteAV x) (
   (24 ≤ 24) ::
   (24 ≤ 100000000) ::
   ((↑(ofL [192, 168, 1, 77, 203, 0, 113, 1, 0, 17, 0, 12, UInt8.ofNat (Int.toNat (IntKind.wrap IntKind.u8 (Int.fdiv q (256 : Int)))), UInt8.ofNat (Int.toNat (IntKind.wrap IntKind.u8 q)), UInt8.ofNat (Int.toNat (IntKind.wrap IntKind.u8 (Int.fdiv p (256 : Int)))), UInt8.ofNat (Int.toNat (IntKind.wrap IntKind.u8 p)), 0, 12, 0, 0, 104, 97, 105, 114]) : Int) = s1) ::
   ((s1 == (0 : Int)) = false) ::
   (6 < 12) ::
   (isByteAV (AV.val (Value.int IntKind.u8 (IntKind.wrap IntKind.u8 (Int.fdiv s1 (256 : Int)))))) ::
   (7 < 12) ::
   (isByteAV (AV.val (Value.int IntKind.u8 (IntKind.wrap IntKind.u8 s1)))) ::
   (∀ (x : AV), x ∈ [AV.val (Value.int IntKind.u8 0), AV.val (Value.int IntKind.u8 32)] → isByteAV x) ::
   rp 2 (∀ (x : AV), x ∈ [AV.val (Value.int IntKind.u8 0), AV.val (Value.int IntKind.u8 0)] → isByteAV x) (
   (20 ≤ 20) ::
   ((31958 : Int) = s2) ::
   (10 < 20) ::
   (isByteAV (AV.val (Value.int IntKind.u8 (IntKind.wrap IntKind.u8 (Int.fdiv s2 (256 : Int)))))) ::
   (11 < 20) ::
   (isByteAV (AV.val (Value.int IntKind.u8 (IntKind.wrap IntKind.u8 s2)))) ::
   (SameO (some (tdO35 p q s1 s2)) (tdO35 p q s1 s2)) ::
   (SameO (some tdO36) tdO36) ::
   (∀ (x : AV), x ∈ [AV.val (Value.int IntKind.u8 8), AV.val (Value.int IntKind.u8 0)] → isByteAV x) ::
   (SameO (some (tdO37 p q s1)) (tdO37 p q s1)) ::
   (SameO (some tdO5) tdO5) ::
   (SameO (some (tdO37 p q s1)) (tdO37 p q s1)) ::
   (SameO (some tdO5) tdO5) ::
   (SameO (some tdO6) tdO6) ::
   (SameO (some tdO7) tdO7) ::
   (SameO (some tdO8) tdO8) ::
   (SameO (some tdO9) tdO9) ::
   (SameO (some tdO10) tdO10) ::
   (SameO (some tdO11) tdO11) ::
   ((!ofL [69, 0, 0, 32, 0, 0, 0, 0, 64, 17, UInt8.ofNat (Int.toNat (IntKind.wrap IntKind.u8 (Int.fdiv s2 (256 : Int)))), UInt8.ofNat (Int.toNat (IntKind.wrap IntKind.u8 s2)), 192, 168, 1, 77, 203, 0, 113, 1] == 0) = true) ::
   (SameO (some (tdO38 p q s1 s2)) (tdO38 p q s1 s2)) ::
   (SameO (some tdO13) tdO13) ::
   (SameO (some tdO14) tdO14) ::
   (SameO (some tdO15) tdO15) ::
   (SameO (some tdO16) tdO16) ::
   (SameO (some tdO17) tdO17) ::
   (SameO (some tdO18) tdO18) ::
   (SameO (some tdO19) tdO19) ::
   (SameO (some tdO20) tdO20) ::
   (SameO (some tdO21) tdO21) ::
   (SameO (some tdO22) tdO22) ::
   (SameO (some tdO23) tdO23) ::
   (SameO (some tdO24) tdO24) ::
   (SameO (some tdO25) tdO25) ::
   (SameO (some tdO26) tdO26) :: [])))) := by kernel_rfl
end Go.Proofs.YtbpofglponmpnaaGreatDoor

/- TopDead, reckoned on some of its ways. (Printed by wip/sym/dead.py and foldo.py.) -/
namespace Go.Proofs.YtbpofglponmpnaaGreatDoor
open Go.RowKit

set_option maxRecDepth 100000 in
theorem topDead_15_n_esum (n : Int) (v : Int) (p : Int) (q : Int) (draw : Int) (secs : Int) (b : List UInt8) (s1 : Int) (s2 : Int) : outT (kDead s1 s2) [(63, { op := [(1, 8, .keep)], ob := [(1, 8)] }),
   (285, { br := [(39, false)], ob := [(9, 3)] }),
   (189, { ob := [(2, 1)] }),
   (188, { ob := [(1, 1), (4, 3), (5, 1), (6, 1), (7, 1), (8, 1), (9, 1), (11, 1), (11, 3), (12, 1), (13, 1), (14, 1), (15, 3), (16, 2), (16, 3)] }),
   (57, { ob := [(1, 1), (4, 4)] }),
   (179, { ob := [(2, 2)] }),
   (81, { op := [(5, 2, .keep)], ob := [(5, 2)] }),
   (16, { ob := [(1, 1), (8, 3)] }),
   (15, { op := [(60, 14, .keep)], ob := [(60, 14)] }),
   (173, { ob := [(1, 6)] }),
   (77, { ob := [(1, 2), (5, 3)] }),
   (73, { ob := [(5, 1), (6, 1), (6, 3), (6, 5), (7, 2), (7, 3)] }),
   (71, { ob := [(15, 8), (15, 10)] }),
   (326, { ob := [(7, 1)] }),
   (6, { op := [(7, 15, .keep)], ob := [(7, 15)] }),
   (3, { br := [(10, false)] }),
   (66, { ob := [(1, 8)] }),
   (162, { op := [(1, 9, .br false), (6, 5, .keep)], gd := [(1, 5, false), (1, 6, false), (1, 7, false), (1, 8, false)], br := [(17, false), (47, false)], ob := [(6, 5), (7, 5), (9, 2), (12, 8), (12, 10)] }),
   (288, { op := [(16, 5, .keep), (16, 11, .keep), (16, 13, .br true)], gd := [(16, 3, true), (16, 4, true), (16, 5, true), (16, 6, true), (16, 7, true), (16, 8, true), (16, 9, true), (16, 10, true), (16, 11, true), (16, 12, true)], br := [(48, true)], ob := [(3, 1), (7, 2), (8, 1), (9, 1), (10, 1), (11, 1), (16, 5), (16, 11)] })] Tryz.prog 3 [AV.agg [AV.val (Value.int IntKind.i64 15), AV.val (Value.int IntKind.i64 n), AV.val (Value.int IntKind.i64 v), AV.val (Value.int IntKind.i64 p), AV.val (Value.int IntKind.i64 q), AV.val (Value.int IntKind.u32 draw), AV.val (Value.int IntKind.u32 secs), AV.bytes b]] [] 0 =
   some (AV.val (Value.bool true), [], 120770,
   (decide ((↑(List.length b) : Int) > (1600 : Int)) = false) ::
   rp 5 ((!(decide ((0 : Int) ≤ q) && decide (q ≤ (65535 : Int)))) = false) (
   ((!(decide ((0 : Int) ≤ p) && decide (p ≤ (65535 : Int)))) = false) ::
   (∀ (x : AV), x ∈ [AV.val (Value.int IntKind.u8 (IntKind.wrap IntKind.u8 (Int.fdiv q (256 : Int)))), AV.val (Value.int IntKind.u8 (IntKind.wrap IntKind.u8 q))] → isByteAV x) ::
   (∀ (x : AV), x ∈ [AV.val (Value.int IntKind.u8 (IntKind.wrap IntKind.u8 (Int.fdiv p (256 : Int)))), AV.val (Value.int IntKind.u8 (IntKind.wrap IntKind.u8 p))] → isByteAV x) ::
   (SameO (some (tdO34 q)) (tdO34 q)) ::
   rp 2 (∀ (x : AV), x ∈ [AV.val (Value.int IntKind.u8 0), AV.val (Value.int IntKind.u8 12)] → isByteAV x) (
   (24 ≤ 24) ::
   (24 ≤ 100000000) ::
   ((↑(ofL [192, 168, 1, 77, 203, 0, 113, 1, 0, 17, 0, 12, UInt8.ofNat (Int.toNat (IntKind.wrap IntKind.u8 (Int.fdiv q (256 : Int)))), UInt8.ofNat (Int.toNat (IntKind.wrap IntKind.u8 q)), UInt8.ofNat (Int.toNat (IntKind.wrap IntKind.u8 (Int.fdiv p (256 : Int)))), UInt8.ofNat (Int.toNat (IntKind.wrap IntKind.u8 p)), 0, 12, 0, 0, 104, 97, 105, 114]) : Int) = s1) ::
   ((s1 == (0 : Int)) = false) ::
   (6 < 12) ::
   (isByteAV (AV.val (Value.int IntKind.u8 (IntKind.wrap IntKind.u8 (Int.fdiv s1 (256 : Int)))))) ::
   (7 < 12) ::
   (isByteAV (AV.val (Value.int IntKind.u8 (IntKind.wrap IntKind.u8 s1)))) ::
   (∀ (x : AV), x ∈ [AV.val (Value.int IntKind.u8 0), AV.val (Value.int IntKind.u8 32)] → isByteAV x) ::
   rp 2 (∀ (x : AV), x ∈ [AV.val (Value.int IntKind.u8 0), AV.val (Value.int IntKind.u8 0)] → isByteAV x) (
   (20 ≤ 20) ::
   ((31958 : Int) = s2) ::
   (10 < 20) ::
   (isByteAV (AV.val (Value.int IntKind.u8 (IntKind.wrap IntKind.u8 (Int.fdiv s2 (256 : Int)))))) ::
   (11 < 20) ::
   (isByteAV (AV.val (Value.int IntKind.u8 (IntKind.wrap IntKind.u8 s2)))) ::
   (SameO (some (tdO35 p q s1 s2)) (tdO35 p q s1 s2)) ::
   (SameO (some tdO36) tdO36) ::
   (∀ (x : AV), x ∈ [AV.val (Value.int IntKind.u8 8), AV.val (Value.int IntKind.u8 0)] → isByteAV x) ::
   (SameO (some (tdO37 p q s1)) (tdO37 p q s1)) ::
   (SameO (some tdO5) tdO5) ::
   (SameO (some (tdO37 p q s1)) (tdO37 p q s1)) ::
   (SameO (some tdO5) tdO5) ::
   (SameO (some tdO6) tdO6) ::
   (SameO (some tdO7) tdO7) ::
   (SameO (some tdO8) tdO8) ::
   (SameO (some tdO9) tdO9) ::
   (SameO (some tdO10) tdO10) ::
   (SameO (some tdO11) tdO11) ::
   ((!ofL [69, 0, 0, 32, 0, 0, 0, 0, 64, 17, UInt8.ofNat (Int.toNat (IntKind.wrap IntKind.u8 (Int.fdiv s2 (256 : Int)))), UInt8.ofNat (Int.toNat (IntKind.wrap IntKind.u8 s2)), 192, 168, 1, 77, 203, 0, 113, 1] == 0) = false) ::
   rp 3 (((↑(UInt8.toNat (UInt8.ofNat (Int.toNat (IntKind.wrap IntKind.u8 (Int.fdiv s1 (256 : Int))))) * 256 + UInt8.toNat (UInt8.ofNat (Int.toNat (IntKind.wrap IntKind.u8 s1)))) : Int) != (0 : Int)) = true) (
   (SameO (some (tdO37 p q s1)) (tdO37 p q s1)) ::
   (SameO (some tdO5) tdO5) ::
   rp 6 (((↑(UInt8.toNat (UInt8.ofNat (Int.toNat (IntKind.wrap IntKind.u8 (Int.fdiv s1 (256 : Int))))) * 256 + UInt8.toNat (UInt8.ofNat (Int.toNat (IntKind.wrap IntKind.u8 s1)))) : Int) != (0 : Int)) = true) (
   (SameO (some (tdO37 p q s1)) (tdO37 p q s1)) ::
   (SameO (some tdO39) tdO39) ::
   (SameO (some tdO40) tdO40) ::
   rp 2 (((↑(UInt8.toNat (UInt8.ofNat (Int.toNat (IntKind.wrap IntKind.u8 (Int.fdiv s1 (256 : Int))))) * 256 + UInt8.toNat (UInt8.ofNat (Int.toNat (IntKind.wrap IntKind.u8 s1)))) : Int) != (0 : Int)) = true) (
   (((↑(ofL (psB 192 168 1 77 203 0 113 1 [0, 17, 0, 12, UInt8.ofNat (Int.toNat (IntKind.wrap IntKind.u8 (Int.fdiv q (256 : Int)))), UInt8.ofNat (Int.toNat (IntKind.wrap IntKind.u8 q)), UInt8.ofNat (Int.toNat (IntKind.wrap IntKind.u8 (Int.fdiv p (256 : Int)))), UInt8.ofNat (Int.toNat (IntKind.wrap IntKind.u8 p)), 0, 12, UInt8.ofNat (Int.toNat (IntKind.wrap IntKind.u8 (Int.fdiv s1 (256 : Int)))), UInt8.ofNat (Int.toNat (IntKind.wrap IntKind.u8 s1)), 104, 97, 105, 114])) : Int) != (0 : Int)) = true) ::
   (SameO (some (tdO38 p q s1 s2)) (tdO38 p q s1 s2)) ::
   (SameO (some tdO13) tdO13) ::
   (SameO (some tdO14) tdO14) ::
   (SameO (some tdO15) tdO15) ::
   (SameO (some tdO16) tdO16) ::
   (SameO (some tdO17) tdO17) ::
   (SameO (some tdO18) tdO18) ::
   (SameO (some tdO19) tdO19) ::
   (SameO (some tdO20) tdO20) ::
   (SameO (some tdO21) tdO21) ::
   (SameO (some tdO22) tdO22) ::
   (SameO (some tdO23) tdO23) ::
   (SameO (some tdO24) tdO24) ::
   (SameO (some tdO25) tdO25) ::
   (SameO (some tdO26) tdO26) :: []))))))) := by kernel_rfl

set_option maxRecDepth 100000 in
theorem topDead_15_n_ok (n : Int) (v : Int) (p : Int) (q : Int) (draw : Int) (secs : Int) (b : List UInt8) (s1 : Int) (s2 : Int) : outT (kDead s1 s2) [(63, { op := [(1, 8, .keep)], ob := [(1, 8)] }),
   (285, { br := [(39, false)], ob := [(9, 3)] }),
   (189, { op := [(3, 22, .br false)], gd := [(3, 8, false), (3, 9, false), (3, 10, false), (3, 11, false), (3, 12, false), (3, 13, false), (3, 14, false), (3, 15, false), (3, 16, false), (3, 21, false)], ob := [(2, 1)] }),
   (188, { ob := [(1, 1), (4, 3), (5, 1), (6, 1), (7, 1), (8, 1), (9, 1), (11, 1), (11, 3), (12, 1), (13, 1), (14, 1), (15, 3), (16, 2), (16, 3)] }),
   (57, { ob := [(1, 1), (4, 4)] }),
   (179, { ob := [(2, 2)] }),
   (81, { op := [(5, 2, .keep)], ob := [(5, 2)] }),
   (16, { ob := [(1, 1), (8, 3)] }),
   (15, { op := [(60, 14, .keep)], ob := [(60, 14)] }),
   (173, { ob := [(1, 6)] }),
   (77, { ob := [(1, 2), (5, 3)] }),
   (73, { ob := [(5, 1), (6, 1), (6, 3), (6, 5), (7, 2), (7, 3)] }),
   (71, { ob := [(15, 8), (15, 10)] }),
   (326, { ob := [(7, 1)] }),
   (6, { op := [(7, 15, .keep)], ob := [(7, 15)] }),
   (3, { br := [(10, false)] }),
   (66, { ob := [(1, 8)] }),
   (162, { op := [(1, 9, .br false), (6, 5, .keep)], gd := [(1, 5, false), (1, 6, false), (1, 7, false), (1, 8, false)], br := [(17, false), (47, false)], ob := [(6, 5), (7, 5), (9, 2), (12, 8), (12, 10)] }),
   (288, { op := [(16, 5, .keep), (16, 11, .keep), (16, 13, .br true)], gd := [(16, 3, true), (16, 4, true), (16, 5, true), (16, 6, true), (16, 7, true), (16, 8, true), (16, 9, true), (16, 10, true), (16, 11, true), (16, 12, true)], br := [(48, false)], ob := [(3, 1), (7, 2), (8, 1), (9, 1), (10, 1), (11, 1), (16, 5), (16, 11), (18, 3)] })] Tryz.prog 3 [AV.agg [AV.val (Value.int IntKind.i64 15), AV.val (Value.int IntKind.i64 n), AV.val (Value.int IntKind.i64 v), AV.val (Value.int IntKind.i64 p), AV.val (Value.int IntKind.i64 q), AV.val (Value.int IntKind.u32 draw), AV.val (Value.int IntKind.u32 secs), AV.bytes b]] [] 0 =
   some (AV.val (Value.bool true), [], 120810,
   (decide ((↑(List.length b) : Int) > (1600 : Int)) = false) ::
   rp 5 ((!(decide ((0 : Int) ≤ q) && decide (q ≤ (65535 : Int)))) = false) (
   ((!(decide ((0 : Int) ≤ p) && decide (p ≤ (65535 : Int)))) = false) ::
   (∀ (x : AV), x ∈ [AV.val (Value.int IntKind.u8 (IntKind.wrap IntKind.u8 (Int.fdiv q (256 : Int)))), AV.val (Value.int IntKind.u8 (IntKind.wrap IntKind.u8 q))] → isByteAV x) ::
   (∀ (x : AV), x ∈ [AV.val (Value.int IntKind.u8 (IntKind.wrap IntKind.u8 (Int.fdiv p (256 : Int)))), AV.val (Value.int IntKind.u8 (IntKind.wrap IntKind.u8 p))] → isByteAV x) ::
   (SameO (some (tdO34 q)) (tdO34 q)) ::
   rp 2 (∀ (x : AV), x ∈ [AV.val (Value.int IntKind.u8 0), AV.val (Value.int IntKind.u8 12)] → isByteAV x) (
   (24 ≤ 24) ::
   (24 ≤ 100000000) ::
   ((↑(ofL [192, 168, 1, 77, 203, 0, 113, 1, 0, 17, 0, 12, UInt8.ofNat (Int.toNat (IntKind.wrap IntKind.u8 (Int.fdiv q (256 : Int)))), UInt8.ofNat (Int.toNat (IntKind.wrap IntKind.u8 q)), UInt8.ofNat (Int.toNat (IntKind.wrap IntKind.u8 (Int.fdiv p (256 : Int)))), UInt8.ofNat (Int.toNat (IntKind.wrap IntKind.u8 p)), 0, 12, 0, 0, 104, 97, 105, 114]) : Int) = s1) ::
   ((s1 == (0 : Int)) = false) ::
   (6 < 12) ::
   (isByteAV (AV.val (Value.int IntKind.u8 (IntKind.wrap IntKind.u8 (Int.fdiv s1 (256 : Int)))))) ::
   (7 < 12) ::
   (isByteAV (AV.val (Value.int IntKind.u8 (IntKind.wrap IntKind.u8 s1)))) ::
   (∀ (x : AV), x ∈ [AV.val (Value.int IntKind.u8 0), AV.val (Value.int IntKind.u8 32)] → isByteAV x) ::
   rp 2 (∀ (x : AV), x ∈ [AV.val (Value.int IntKind.u8 0), AV.val (Value.int IntKind.u8 0)] → isByteAV x) (
   (20 ≤ 20) ::
   ((31958 : Int) = s2) ::
   (10 < 20) ::
   (isByteAV (AV.val (Value.int IntKind.u8 (IntKind.wrap IntKind.u8 (Int.fdiv s2 (256 : Int)))))) ::
   (11 < 20) ::
   (isByteAV (AV.val (Value.int IntKind.u8 (IntKind.wrap IntKind.u8 s2)))) ::
   (SameO (some (tdO35 p q s1 s2)) (tdO35 p q s1 s2)) ::
   (SameO (some tdO36) tdO36) ::
   (∀ (x : AV), x ∈ [AV.val (Value.int IntKind.u8 8), AV.val (Value.int IntKind.u8 0)] → isByteAV x) ::
   (SameO (some (tdO37 p q s1)) (tdO37 p q s1)) ::
   (SameO (some tdO5) tdO5) ::
   (SameO (some (tdO37 p q s1)) (tdO37 p q s1)) ::
   (SameO (some tdO5) tdO5) ::
   (SameO (some tdO6) tdO6) ::
   (SameO (some tdO7) tdO7) ::
   (SameO (some tdO8) tdO8) ::
   (SameO (some tdO9) tdO9) ::
   (SameO (some tdO10) tdO10) ::
   (SameO (some tdO11) tdO11) ::
   ((!ofL [69, 0, 0, 32, 0, 0, 0, 0, 64, 17, UInt8.ofNat (Int.toNat (IntKind.wrap IntKind.u8 (Int.fdiv s2 (256 : Int)))), UInt8.ofNat (Int.toNat (IntKind.wrap IntKind.u8 s2)), 192, 168, 1, 77, 203, 0, 113, 1] == 0) = false) ::
   rp 3 (((↑(UInt8.toNat (UInt8.ofNat (Int.toNat (IntKind.wrap IntKind.u8 (Int.fdiv s1 (256 : Int))))) * 256 + UInt8.toNat (UInt8.ofNat (Int.toNat (IntKind.wrap IntKind.u8 s1)))) : Int) != (0 : Int)) = true) (
   (SameO (some (tdO37 p q s1)) (tdO37 p q s1)) ::
   (SameO (some tdO5) tdO5) ::
   rp 6 (((↑(UInt8.toNat (UInt8.ofNat (Int.toNat (IntKind.wrap IntKind.u8 (Int.fdiv s1 (256 : Int))))) * 256 + UInt8.toNat (UInt8.ofNat (Int.toNat (IntKind.wrap IntKind.u8 s1)))) : Int) != (0 : Int)) = true) (
   (SameO (some (tdO37 p q s1)) (tdO37 p q s1)) ::
   (SameO (some tdO39) tdO39) ::
   (SameO (some tdO40) tdO40) ::
   rp 2 (((↑(UInt8.toNat (UInt8.ofNat (Int.toNat (IntKind.wrap IntKind.u8 (Int.fdiv s1 (256 : Int))))) * 256 + UInt8.toNat (UInt8.ofNat (Int.toNat (IntKind.wrap IntKind.u8 s1)))) : Int) != (0 : Int)) = true) (
   (((↑(ofL (psB 192 168 1 77 203 0 113 1 [0, 17, 0, 12, UInt8.ofNat (Int.toNat (IntKind.wrap IntKind.u8 (Int.fdiv q (256 : Int)))), UInt8.ofNat (Int.toNat (IntKind.wrap IntKind.u8 q)), UInt8.ofNat (Int.toNat (IntKind.wrap IntKind.u8 (Int.fdiv p (256 : Int)))), UInt8.ofNat (Int.toNat (IntKind.wrap IntKind.u8 p)), 0, 12, UInt8.ofNat (Int.toNat (IntKind.wrap IntKind.u8 (Int.fdiv s1 (256 : Int)))), UInt8.ofNat (Int.toNat (IntKind.wrap IntKind.u8 s1)), 104, 97, 105, 114])) : Int) != (0 : Int)) = false) ::
   rp 11 (((↑(UInt8.toNat (UInt8.ofNat (Int.toNat (IntKind.wrap IntKind.u8 (Int.fdiv p (256 : Int))))) * 256 + UInt8.toNat (UInt8.ofNat (Int.toNat (IntKind.wrap IntKind.u8 p)))) : Int) == (67 : Int)) = false) (
   (SameO (some (tdO38 p q s1 s2)) (tdO38 p q s1 s2)) ::
   (SameO (some tdO13) tdO13) ::
   (SameO (some tdO14) tdO14) ::
   (SameO (some tdO15) tdO15) ::
   (SameO (some tdO16) tdO16) ::
   (SameO (some tdO17) tdO17) ::
   (SameO (some tdO18) tdO18) ::
   (SameO (some tdO19) tdO19) ::
   (SameO (some tdO20) tdO20) ::
   (SameO (some tdO21) tdO21) ::
   (SameO (some tdO22) tdO22) ::
   (SameO (some tdO23) tdO23) ::
   (SameO (some tdO24) tdO24) ::
   (SameO (some tdO25) tdO25) ::
   (SameO (some tdO26) tdO26) :: [])))))))) := by kernel_rfl

set_option maxRecDepth 100000 in
theorem topDead_15_m_ok (n : Int) (v : Int) (p : Int) (q : Int) (draw : Int) (secs : Int) (b : List UInt8) (s1 : Int) (s2 : Int) : outT (kDead s1 s2) [(63, { op := [(1, 8, .keep)], ob := [(1, 8)] }),
   (285, { br := [(39, false)], ob := [(9, 3)] }),
   (189, { op := [(3, 22, .br false)], gd := [(3, 8, false), (3, 9, false), (3, 10, false), (3, 11, false), (3, 12, false), (3, 13, false), (3, 14, false), (3, 15, false), (3, 16, false), (3, 21, false)], ob := [(2, 1)] }),
   (188, { ob := [(1, 1), (4, 3), (5, 1), (6, 1), (7, 1), (8, 1), (9, 1), (11, 1), (11, 3), (12, 1), (13, 1), (14, 1), (15, 3), (16, 2), (16, 3)] }),
   (57, { ob := [(1, 1), (4, 4)] }),
   (179, { ob := [(2, 2)] }),
   (81, { op := [(5, 2, .keep)], ob := [(5, 2)] }),
   (16, { ob := [(1, 1), (8, 3)] }),
   (15, { op := [(60, 14, .keep)], ob := [(60, 14)] }),
   (173, { ob := [(1, 6)] }),
   (77, { ob := [(1, 2), (5, 3)] }),
   (73, { ob := [(5, 1), (6, 1), (6, 3), (6, 5), (7, 2), (7, 3)] }),
   (71, { ob := [(15, 8), (15, 10)] }),
   (6, { op := [(7, 15, .keep)], ob := [(7, 15)] }),
   (3, { br := [(10, false)] }),
   (66, { ob := [(1, 8)] }),
   (162, { op := [(1, 9, .br false), (6, 5, .keep)], gd := [(1, 5, false), (1, 6, false), (1, 7, false), (1, 8, false)], br := [(17, false), (47, false)], ob := [(6, 5), (7, 5), (9, 2), (12, 8), (12, 10)] }),
   (288, { op := [(16, 13, .br false)], gd := [(16, 3, false), (16, 4, false), (16, 5, false), (16, 6, false), (16, 7, false), (16, 8, false), (16, 9, false), (16, 10, false), (16, 11, false), (16, 12, false)], ob := [(3, 1), (7, 2), (8, 1), (9, 1), (10, 1), (11, 1), (18, 3)] })] Tryz.prog 3 [AV.agg [AV.val (Value.int IntKind.i64 15), AV.val (Value.int IntKind.i64 n), AV.val (Value.int IntKind.i64 v), AV.val (Value.int IntKind.i64 p), AV.val (Value.int IntKind.i64 q), AV.val (Value.int IntKind.u32 draw), AV.val (Value.int IntKind.u32 secs), AV.bytes b]] [] 0 =
   some (AV.val (Value.bool true), [], 120750,
   (decide ((↑(List.length b) : Int) > (1600 : Int)) = false) ::
   rp 5 ((!(decide ((0 : Int) ≤ q) && decide (q ≤ (65535 : Int)))) = false) (
   ((!(decide ((0 : Int) ≤ p) && decide (p ≤ (65535 : Int)))) = false) ::
   (∀ (x : AV), x ∈ [AV.val (Value.int IntKind.u8 (IntKind.wrap IntKind.u8 (Int.fdiv q (256 : Int)))), AV.val (Value.int IntKind.u8 (IntKind.wrap IntKind.u8 q))] → isByteAV x) ::
   (∀ (x : AV), x ∈ [AV.val (Value.int IntKind.u8 (IntKind.wrap IntKind.u8 (Int.fdiv p (256 : Int)))), AV.val (Value.int IntKind.u8 (IntKind.wrap IntKind.u8 p))] → isByteAV x) ::
   (SameO (some (tdO34 q)) (tdO34 q)) ::
   rp 2 (∀ (x : AV), x ∈ [AV.val (Value.int IntKind.u8 0), AV.val (Value.int IntKind.u8 12)] → isByteAV x) (
   (24 ≤ 24) ::
   (24 ≤ 100000000) ::
   ((↑(ofL [192, 168, 1, 77, 203, 0, 113, 1, 0, 17, 0, 12, UInt8.ofNat (Int.toNat (IntKind.wrap IntKind.u8 (Int.fdiv q (256 : Int)))), UInt8.ofNat (Int.toNat (IntKind.wrap IntKind.u8 q)), UInt8.ofNat (Int.toNat (IntKind.wrap IntKind.u8 (Int.fdiv p (256 : Int)))), UInt8.ofNat (Int.toNat (IntKind.wrap IntKind.u8 p)), 0, 12, 0, 0, 104, 97, 105, 114]) : Int) = s1) ::
   ((s1 == (0 : Int)) = false) ::
   (6 < 12) ::
   (isByteAV (AV.val (Value.int IntKind.u8 (IntKind.wrap IntKind.u8 (Int.fdiv s1 (256 : Int)))))) ::
   (7 < 12) ::
   (isByteAV (AV.val (Value.int IntKind.u8 (IntKind.wrap IntKind.u8 s1)))) ::
   (∀ (x : AV), x ∈ [AV.val (Value.int IntKind.u8 0), AV.val (Value.int IntKind.u8 32)] → isByteAV x) ::
   rp 2 (∀ (x : AV), x ∈ [AV.val (Value.int IntKind.u8 0), AV.val (Value.int IntKind.u8 0)] → isByteAV x) (
   (20 ≤ 20) ::
   ((31958 : Int) = s2) ::
   (10 < 20) ::
   (isByteAV (AV.val (Value.int IntKind.u8 (IntKind.wrap IntKind.u8 (Int.fdiv s2 (256 : Int)))))) ::
   (11 < 20) ::
   (isByteAV (AV.val (Value.int IntKind.u8 (IntKind.wrap IntKind.u8 s2)))) ::
   (SameO (some (tdO35 p q s1 s2)) (tdO35 p q s1 s2)) ::
   (SameO (some tdO36) tdO36) ::
   (∀ (x : AV), x ∈ [AV.val (Value.int IntKind.u8 8), AV.val (Value.int IntKind.u8 0)] → isByteAV x) ::
   (SameO (some (tdO37 p q s1)) (tdO37 p q s1)) ::
   (SameO (some tdO5) tdO5) ::
   (SameO (some (tdO37 p q s1)) (tdO37 p q s1)) ::
   (SameO (some tdO5) tdO5) ::
   (SameO (some tdO6) tdO6) ::
   (SameO (some tdO7) tdO7) ::
   (SameO (some tdO8) tdO8) ::
   (SameO (some tdO9) tdO9) ::
   (SameO (some tdO10) tdO10) ::
   (SameO (some tdO11) tdO11) ::
   ((!ofL [69, 0, 0, 32, 0, 0, 0, 0, 64, 17, UInt8.ofNat (Int.toNat (IntKind.wrap IntKind.u8 (Int.fdiv s2 (256 : Int)))), UInt8.ofNat (Int.toNat (IntKind.wrap IntKind.u8 s2)), 192, 168, 1, 77, 203, 0, 113, 1] == 0) = false) ::
   rp 11 (((↑(UInt8.toNat (UInt8.ofNat (Int.toNat (IntKind.wrap IntKind.u8 (Int.fdiv s1 (256 : Int))))) * 256 + UInt8.toNat (UInt8.ofNat (Int.toNat (IntKind.wrap IntKind.u8 s1)))) : Int) != (0 : Int)) = false) (
   rp 11 (((↑(UInt8.toNat (UInt8.ofNat (Int.toNat (IntKind.wrap IntKind.u8 (Int.fdiv p (256 : Int))))) * 256 + UInt8.toNat (UInt8.ofNat (Int.toNat (IntKind.wrap IntKind.u8 p)))) : Int) == (67 : Int)) = false) (
   (SameO (some (tdO38 p q s1 s2)) (tdO38 p q s1 s2)) ::
   (SameO (some tdO13) tdO13) ::
   (SameO (some tdO14) tdO14) ::
   (SameO (some tdO15) tdO15) ::
   (SameO (some tdO16) tdO16) ::
   (SameO (some tdO17) tdO17) ::
   (SameO (some tdO18) tdO18) ::
   (SameO (some tdO19) tdO19) ::
   (SameO (some tdO20) tdO20) ::
   (SameO (some tdO21) tdO21) ::
   (SameO (some tdO22) tdO22) ::
   (SameO (some tdO23) tdO23) ::
   (SameO (some tdO24) tdO24) ::
   (SameO (some tdO25) tdO25) ::
   (SameO (some tdO26) tdO26) :: [])))))) := by kernel_rfl

set_option maxRecDepth 100000 in
theorem topDead_15_z_ok (n : Int) (v : Int) (p : Int) (q : Int) (draw : Int) (secs : Int) (b : List UInt8) (s1 : Int) (s2 : Int) : outT (kDead s1 s2) [(63, { op := [(1, 8, .keep)], ob := [(1, 8)] }),
   (285, { br := [(39, false)], ob := [(9, 3)] }),
   (189, { op := [(3, 22, .br false)], gd := [(3, 8, false), (3, 9, false), (3, 10, false), (3, 11, false), (3, 12, false), (3, 13, false), (3, 14, false), (3, 15, false), (3, 16, false), (3, 21, false)], ob := [(2, 1)] }),
   (188, { ob := [(1, 1), (4, 3), (5, 1), (6, 1), (7, 1), (8, 1), (9, 1), (11, 1), (11, 3), (12, 1), (13, 1), (14, 1), (15, 3), (16, 2), (16, 3)] }),
   (57, { ob := [(1, 1), (4, 4)] }),
   (179, { ob := [(2, 2)] }),
   (81, { op := [(5, 2, .keep)], ob := [(5, 2)] }),
   (16, { ob := [(1, 1), (8, 3)] }),
   (15, { op := [(60, 14, .keep)], ob := [(60, 14)] }),
   (173, { ob := [(1, 6)] }),
   (77, { ob := [(1, 2), (5, 3)] }),
   (73, { ob := [(5, 1), (6, 1), (6, 3), (6, 5), (7, 2), (7, 3)] }),
   (71, { ob := [(15, 8), (15, 10)] }),
   (326, { ob := [(7, 1)] }),
   (6, { op := [(7, 15, .keep)], ob := [(7, 15)] }),
   (3, { br := [(10, false)] }),
   (66, { ob := [(1, 8)] }),
   (162, { op := [(1, 9, .br false), (6, 5, .keep)], gd := [(1, 5, false), (1, 6, false), (1, 7, false), (1, 8, false)], br := [(17, false), (47, true)], ob := [(6, 5), (7, 5), (9, 2)] }),
   (288, { op := [(16, 5, .keep), (16, 11, .keep)], br := [(48, false)], ob := [(3, 1), (7, 2), (8, 1), (9, 1), (10, 1), (11, 1), (16, 5), (16, 11), (18, 3)] })] Tryz.prog 3 [AV.agg [AV.val (Value.int IntKind.i64 15), AV.val (Value.int IntKind.i64 n), AV.val (Value.int IntKind.i64 v), AV.val (Value.int IntKind.i64 p), AV.val (Value.int IntKind.i64 q), AV.val (Value.int IntKind.u32 draw), AV.val (Value.int IntKind.u32 secs), AV.bytes b]] [] 0 =
   some (AV.val (Value.bool true), [], 120811,
   (decide ((↑(List.length b) : Int) > (1600 : Int)) = false) ::
   rp 5 ((!(decide ((0 : Int) ≤ q) && decide (q ≤ (65535 : Int)))) = false) (
   ((!(decide ((0 : Int) ≤ p) && decide (p ≤ (65535 : Int)))) = false) ::
   (∀ (x : AV), x ∈ [AV.val (Value.int IntKind.u8 (IntKind.wrap IntKind.u8 (Int.fdiv q (256 : Int)))), AV.val (Value.int IntKind.u8 (IntKind.wrap IntKind.u8 q))] → isByteAV x) ::
   (∀ (x : AV), x ∈ [AV.val (Value.int IntKind.u8 (IntKind.wrap IntKind.u8 (Int.fdiv p (256 : Int)))), AV.val (Value.int IntKind.u8 (IntKind.wrap IntKind.u8 p))] → isByteAV x) ::
   (SameO (some (tdO34 q)) (tdO34 q)) ::
   rp 2 (∀ (x : AV), x ∈ [AV.val (Value.int IntKind.u8 0), AV.val (Value.int IntKind.u8 12)] → isByteAV x) (
   (24 ≤ 24) ::
   (24 ≤ 100000000) ::
   ((↑(ofL [192, 168, 1, 77, 203, 0, 113, 1, 0, 17, 0, 12, UInt8.ofNat (Int.toNat (IntKind.wrap IntKind.u8 (Int.fdiv q (256 : Int)))), UInt8.ofNat (Int.toNat (IntKind.wrap IntKind.u8 q)), UInt8.ofNat (Int.toNat (IntKind.wrap IntKind.u8 (Int.fdiv p (256 : Int)))), UInt8.ofNat (Int.toNat (IntKind.wrap IntKind.u8 p)), 0, 12, 0, 0, 104, 97, 105, 114]) : Int) = s1) ::
   ((s1 == (0 : Int)) = true) ::
   (∀ (x : AV), x ∈ [AV.val (Value.int IntKind.u8 0), AV.val (Value.int IntKind.u8 32)] → isByteAV x) ::
   rp 2 (∀ (x : AV), x ∈ [AV.val (Value.int IntKind.u8 0), AV.val (Value.int IntKind.u8 0)] → isByteAV x) (
   (20 ≤ 20) ::
   ((31958 : Int) = s2) ::
   (10 < 20) ::
   (isByteAV (AV.val (Value.int IntKind.u8 (IntKind.wrap IntKind.u8 (Int.fdiv s2 (256 : Int)))))) ::
   (11 < 20) ::
   (isByteAV (AV.val (Value.int IntKind.u8 (IntKind.wrap IntKind.u8 s2)))) ::
   (SameO (some (tdO41 p q s2)) (tdO41 p q s2)) ::
   (SameO (some tdO42) tdO42) ::
   (∀ (x : AV), x ∈ [AV.val (Value.int IntKind.u8 8), AV.val (Value.int IntKind.u8 0)] → isByteAV x) ::
   (SameO (some (tdO43 p q)) (tdO43 p q)) ::
   (SameO (some tdO5) tdO5) ::
   (SameO (some (tdO43 p q)) (tdO43 p q)) ::
   (SameO (some tdO5) tdO5) ::
   (SameO (some tdO6) tdO6) ::
   (SameO (some tdO7) tdO7) ::
   (SameO (some tdO8) tdO8) ::
   (SameO (some tdO9) tdO9) ::
   (SameO (some tdO10) tdO10) ::
   (SameO (some tdO11) tdO11) ::
   ((!ofL [69, 0, 0, 32, 0, 0, 0, 0, 64, 17, UInt8.ofNat (Int.toNat (IntKind.wrap IntKind.u8 (Int.fdiv s2 (256 : Int)))), UInt8.ofNat (Int.toNat (IntKind.wrap IntKind.u8 s2)), 192, 168, 1, 77, 203, 0, 113, 1] == 0) = false) ::
   (SameO (some (tdO43 p q)) (tdO43 p q)) ::
   (SameO (some tdO5) tdO5) ::
   (SameO (some (tdO43 p q)) (tdO43 p q)) ::
   (SameO (some tdO39) tdO39) ::
   (SameO (some tdO44) tdO44) ::
   (((↑(ofL (psB 192 168 1 77 203 0 113 1 [0, 17, 0, 12, UInt8.ofNat (Int.toNat (IntKind.wrap IntKind.u8 (Int.fdiv q (256 : Int)))), UInt8.ofNat (Int.toNat (IntKind.wrap IntKind.u8 q)), UInt8.ofNat (Int.toNat (IntKind.wrap IntKind.u8 (Int.fdiv p (256 : Int)))), UInt8.ofNat (Int.toNat (IntKind.wrap IntKind.u8 p)), 0, 12, 255, 255, 104, 97, 105, 114])) : Int) != (0 : Int)) = false) ::
   rp 11 (((↑(UInt8.toNat (UInt8.ofNat (Int.toNat (IntKind.wrap IntKind.u8 (Int.fdiv p (256 : Int))))) * 256 + UInt8.toNat (UInt8.ofNat (Int.toNat (IntKind.wrap IntKind.u8 p)))) : Int) == (67 : Int)) = false) (
   (SameO (some (tdO45 p q s2)) (tdO45 p q s2)) ::
   (SameO (some tdO13) tdO13) ::
   (SameO (some tdO14) tdO14) ::
   (SameO (some tdO15) tdO15) ::
   (SameO (some tdO16) tdO16) ::
   (SameO (some tdO17) tdO17) ::
   (SameO (some tdO18) tdO18) ::
   (SameO (some tdO19) tdO19) ::
   (SameO (some tdO20) tdO20) ::
   (SameO (some tdO21) tdO21) ::
   (SameO (some tdO22) tdO22) ::
   (SameO (some tdO23) tdO23) ::
   (SameO (some tdO24) tdO24) ::
   (SameO (some tdO25) tdO25) ::
   (SameO (some tdO26) tdO26) :: []))))) := by kernel_rfl
end Go.Proofs.YtbpofglponmpnaaGreatDoor
