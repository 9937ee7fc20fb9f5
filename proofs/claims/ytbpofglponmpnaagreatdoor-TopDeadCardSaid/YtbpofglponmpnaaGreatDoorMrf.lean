/- Several texts in one: TdRun10, TdRun11. -/
import Derived.Test.YtbpofglponmpnaaGreatDoorMre
import Derived.Test.YtbpofglponmpnaaGreatDoorMtdo

/- TopDead, reckoned on some of its ways. (Printed by wip/sym/dead.py and foldo.py.) -/
namespace Go.Proofs.YtbpofglponmpnaaGreatDoor
open Go.RowKit

set_option maxRecDepth 100000 in
theorem topDead_9_z_esum (n : Int) (v : Int) (p : Int) (q : Int) (draw : Int) (secs : Int) (b : List UInt8) (s1 : Int) (s2 : Int) : outT (kDead s1 s2) [(63, { op := [(1, 8, .keep)], ob := [(1, 8)] }),
   (285, { br := [(39, false)], ob := [(9, 3)] }),
   (189, { ob := [(2, 1)] }),
   (188, { ob := [(1, 1), (4, 3), (5, 1), (6, 1), (7, 1), (8, 1), (9, 1), (11, 1), (11, 3), (12, 1), (13, 1), (14, 1), (15, 3), (16, 2), (16, 3)] }),
   (59, { ob := [(1, 7)] }),
   (57, { ob := [(1, 1), (4, 4)] }),
   (179, { ob := [(2, 2)] }),
   (81, { op := [(5, 2, .keep)], ob := [(5, 2)] }),
   (16, { ob := [(1, 1), (8, 3)] }),
   (15, { ob := [(35, 7), (36, 1), (37, 5), (37, 6)] }),
   (173, { ob := [(1, 6)] }),
   (77, { ob := [(1, 2), (5, 3)] }),
   (73, { ob := [(5, 1), (6, 1), (6, 3), (6, 5), (7, 2), (7, 3)] }),
   (71, { ob := [(15, 8), (15, 10)] }),
   (166, { op := [(1, 5, .br true)], gd := [(1, 3, true), (1, 4, true)] }),
   (326, { ob := [(7, 1)] }),
   (6, { op := [(7, 15, .keep)], ob := [(7, 15)] }),
   (67, { op := [(1, 9, .br false), (3, 5, .keep), (4, 4, .keep), (4, 8, .keep), (5, 4, .keep), (5, 8, .keep), (12, 3, .keep), (12, 6, .keep), (12, 9, .keep), (13, 3, .keep), (13, 6, .keep), (13, 9, .keep)], gd := [(1, 5, false), (1, 6, false), (1, 7, false), (1, 8, false)], ob := [(3, 5), (4, 4), (4, 8), (5, 4), (5, 8), (10, 2), (12, 3), (12, 6), (12, 9), (13, 3), (13, 6), (13, 9)] }),
   (3, { br := [(10, false)] }),
   (162, { br := [(47, true)], ob := [(9, 2)] }),
   (66, { ob := [(1, 8)] }),
   (288, { op := [(16, 5, .keep), (16, 11, .keep)], br := [(48, true)], ob := [(3, 1), (7, 2), (8, 1), (9, 1), (10, 1), (11, 1), (16, 5), (16, 11)] })] Tryz.prog 3 [AV.agg [AV.val (Value.int IntKind.i64 9), AV.val (Value.int IntKind.i64 n), AV.val (Value.int IntKind.i64 v), AV.val (Value.int IntKind.i64 p), AV.val (Value.int IntKind.i64 q), AV.val (Value.int IntKind.u32 draw), AV.val (Value.int IntKind.u32 secs), AV.bytes b]] [] 0 =
   some (AV.val (Value.bool true), [], 121194,
   (decide ((↑(List.length b) : Int) > (1600 : Int)) = false) ::
   (∀ (x : AV), x ∈ [AV.val (Value.int IntKind.u8 (IntKind.wrap IntKind.u8 (IntKind.wrap IntKind.i64 ((97 : Int) + bits BinOp.and IntKind.i64 v (15 : Int)))))] → isByteAV x) ::
   rp 3 (decide (p ≥ (0 : Int)) = true) (
   rp 3 ((!decide (p ≤ (65535 : Int))) = false) (
   rp 3 (true = true) (
   rp 2 ((!decide (p ≤ (65535 : Int))) = false) (
   (∀ (x : AV), x ∈ [AV.val (Value.int IntKind.u8 (IntKind.wrap IntKind.u8 (Int.fdiv p (256 : Int)))), AV.val (Value.int IntKind.u8 (IntKind.wrap IntKind.u8 p))] → isByteAV x) ::
   (∀ (x : AV), x ∈ [AV.val (Value.int IntKind.u8 1), AV.val (Value.int IntKind.u8 0)] → isByteAV x) ::
   (SameO (some (tdO0 p)) (tdO0 p)) ::
   (∀ (x : AV), x ∈ [AV.val (Value.int IntKind.u8 0), AV.val (Value.int IntKind.u8 1)] → isByteAV x) ::
   (SameO (some (tdO59 p)) (tdO59 p)) ::
   (∀ (x : AV), x ∈ [AV.val (Value.int IntKind.u8 0), AV.val (Value.int IntKind.u8 0)] → isByteAV x) ::
   (SameO (some (tdO60 p)) (tdO60 p)) ::
   (∀ (x : AV), x ∈ [AV.val (Value.int IntKind.u8 0), AV.val (Value.int IntKind.u8 0)] → isByteAV x) ::
   (SameO (some (tdO61 p)) (tdO61 p)) ::
   (∀ (x : AV), x ∈ [AV.val (Value.int IntKind.u8 0), AV.val (Value.int IntKind.u8 0)] → isByteAV x) ::
   (SameO (some (tdO62 p)) (tdO62 p)) ::
   rp 6 (true = true) (
   (SameO (some (tdO63 v)) (tdO63 v)) ::
   (SameO (some (tdO64 p)) (tdO64 p)) ::
   (∀ (x : AV), x ∈ [AV.val (Value.int IntKind.u8 0), AV.val (Value.int IntKind.u8 1)] → isByteAV x) ::
   (SameO (some (tdO65 v p)) (tdO65 v p)) ::
   (∀ (x : AV), x ∈ [AV.val (Value.int IntKind.u8 0), AV.val (Value.int IntKind.u8 1)] → isByteAV x) ::
   (SameO (some (tdO66 v p)) (tdO66 v p)) ::
   rp 3 (SameO (some (tdO67 v p)) (tdO67 v p)) (
   (∀ (x : AV), x ∈ [AV.val (Value.int IntKind.u8 11), AV.val (Value.int IntKind.u8 184)] → isByteAV x) ::
   (∀ (x : AV), x ∈ [AV.val (Value.int IntKind.u8 0), AV.val (Value.int IntKind.u8 53)] → isByteAV x) ::
   rp 2 (∀ (x : AV), x ∈ [AV.val (Value.int IntKind.u8 0), AV.val (Value.int IntKind.u8 28)] → isByteAV x) (
   (40 ≤ 40) ::
   (40 ≤ 100000000) ::
   ((↑(ofL [192, 168, 1, 77, 192, 168, 1, 1, 0, 17, 0, 28, 11, 184, 0, 53, 0, 28, 0, 0, UInt8.ofNat (Int.toNat (IntKind.wrap IntKind.u8 (Int.fdiv p (256 : Int)))), UInt8.ofNat (Int.toNat (IntKind.wrap IntKind.u8 p)), 1, 0, 0, 1, 0, 0, 0, 0, 0, 0, 2, 110, UInt8.ofNat (Int.toNat (IntKind.wrap IntKind.u8 (IntKind.wrap IntKind.i64 ((97 : Int) + bits BinOp.and IntKind.i64 v (15 : Int))))), 0, 0, 1, 0, 1]) : Int) = s1) ::
   ((s1 == (0 : Int)) = true) ::
   (∀ (x : AV), x ∈ [AV.val (Value.int IntKind.u8 0), AV.val (Value.int IntKind.u8 48)] → isByteAV x) ::
   rp 2 (∀ (x : AV), x ∈ [AV.val (Value.int IntKind.u8 0), AV.val (Value.int IntKind.u8 0)] → isByteAV x) (
   (20 ≤ 20) ::
   ((63262 : Int) = s2) ::
   (10 < 20) ::
   (isByteAV (AV.val (Value.int IntKind.u8 (IntKind.wrap IntKind.u8 (Int.fdiv s2 (256 : Int)))))) ::
   (11 < 20) ::
   (isByteAV (AV.val (Value.int IntKind.u8 (IntKind.wrap IntKind.u8 s2)))) ::
   (SameO (some (tdO74 v p s2)) (tdO74 v p s2)) ::
   (SameO (some tdO75) tdO75) ::
   (∀ (x : AV), x ∈ [AV.val (Value.int IntKind.u8 8), AV.val (Value.int IntKind.u8 0)] → isByteAV x) ::
   (SameO (some (tdO76 v p)) (tdO76 v p)) ::
   (SameO (some tdO5) tdO5) ::
   ((!ofL [69, 0, 0, 48, 0, 0, 0, 0, 64, 17, UInt8.ofNat (Int.toNat (IntKind.wrap IntKind.u8 (Int.fdiv s2 (256 : Int)))), UInt8.ofNat (Int.toNat (IntKind.wrap IntKind.u8 s2)), 192, 168, 1, 77, 192, 168, 1, 1] == 0) = false) ::
   (SameO (some (tdO76 v p)) (tdO76 v p)) ::
   (SameO (some tdO5) tdO5) ::
   (SameO (some (tdO76 v p)) (tdO76 v p)) ::
   (SameO (some tdO71) tdO71) ::
   (SameO (some tdO77) tdO77) ::
   (((↑(ofL (psB 192 168 1 77 192 168 1 1 [0, 17, 0, 28, 11, 184, 0, 53, 0, 28, 255, 255, UInt8.ofNat (Int.toNat (IntKind.wrap IntKind.u8 (Int.fdiv p (256 : Int)))), UInt8.ofNat (Int.toNat (IntKind.wrap IntKind.u8 p)), 1, 0, 0, 1, 0, 0, 0, 0, 0, 0, 2, 110, UInt8.ofNat (Int.toNat (IntKind.wrap IntKind.u8 (IntKind.wrap IntKind.i64 ((97 : Int) + bits BinOp.and IntKind.i64 v (15 : Int))))), 0, 0, 1, 0, 1])) : Int) != (0 : Int)) = true) ::
   (SameO (some (tdO78 v p s2)) (tdO78 v p s2)) ::
   (SameO (some tdO13) tdO13) ::
   (SameO (some tdO14) tdO14) ::
   (SameO (some tdO15) tdO15) ::
   (SameO (some tdO16) tdO16) ::
   (SameO (some tdO17) tdO17) ::
   (SameO (some tdO18) tdO18) ::
   (SameO (some tdO19) tdO19) ::
   (SameO (some tdO20) tdO20) ::
   (SameO (some tdO21) tdO21) ::
   (SameO (some tdO22) tdO22) ::
   (SameO (some tdO23) tdO23) ::
   (SameO (some tdO24) tdO24) ::
   (SameO (some tdO25) tdO25) ::
   (SameO (some tdO26) tdO26) :: []))))))))) := by kernel_rfl

set_option maxRecDepth 100000 in
theorem topDead_13_hbad (n : Int) (v : Int) (p : Int) (q : Int) (draw : Int) (secs : Int) (b : List UInt8) (s1 : Int) (s2 : Int) : outT (kDead s1 s2) [(63, { op := [(1, 8, .keep)], ob := [(1, 8)] }),
   (61, { ob := [(1, 4), (1, 8)] }),
   (285, { br := [(39, true)], ob := [(9, 3)] }),
   (188, { ob := [(1, 1)] }),
   (57, { ob := [(1, 1), (4, 4)] }),
   (278, { op := [(1, 2, .keep)], ob := [(1, 2), (1, 5), (2, 7)] }),
   (179, { ob := [(2, 2)] }),
   (81, { op := [(5, 2, .keep)], ob := [(5, 2)] }),
   (16, { ob := [(1, 1), (8, 3)] }),
   (15, { ob := [(55, 3)] }),
   (173, { ob := [(1, 6)] }),
   (77, { ob := [(1, 2)] }),
   (73, { ob := [(5, 1), (6, 1), (6, 3), (6, 5), (7, 2), (7, 3)] }),
   (71, { ob := [(12, 3), (14, 1), (15, 8), (15, 10)] }),
   (6, { op := [(7, 15, .keep)], ob := [(7, 15)] }),
   (69, { op := [(1, 9, .br false), (1, 21, .br false), (6, 5, .keep), (7, 3, .keep), (7, 6, .keep)], gd := [(1, 5, false), (1, 6, false), (1, 7, false), (1, 8, false), (1, 17, false), (1, 18, false), (1, 19, false), (1, 20, false)], ob := [(6, 5), (7, 3), (7, 6), (8, 10), (9, 3), (10, 3), (13, 2), (14, 8), (14, 10)] }),
   (3, { br := [(10, false)] }),
   (66, { ob := [(1, 8)] })] Tryz.prog 3 [AV.agg [AV.val (Value.int IntKind.i64 13), AV.val (Value.int IntKind.i64 n), AV.val (Value.int IntKind.i64 v), AV.val (Value.int IntKind.i64 p), AV.val (Value.int IntKind.i64 q), AV.val (Value.int IntKind.u32 draw), AV.val (Value.int IntKind.u32 secs), AV.bytes b]] [] 0 =
   some (AV.val (Value.bool true), [], 118483,
   (decide ((↑(List.length b) : Int) > (1600 : Int)) = false) ::
   rp 5 ((!(decide ((0 : Int) ≤ bits BinOp.and IntKind.i64 p (65535 : Int)) && decide (bits BinOp.and IntKind.i64 p (65535 : Int) ≤ (65535 : Int)))) = false) (
   rp 5 ((!(decide ((0 : Int) ≤ bits BinOp.and IntKind.i64 q (63 : Int)) && decide (bits BinOp.and IntKind.i64 q (63 : Int) ≤ (63 : Int)))) = false) (
   (∀ (x : AV), x ∈ [AV.val (Value.int IntKind.u8 (IntKind.wrap IntKind.u8 (Int.fdiv (bits BinOp.and IntKind.i64 p (65535 : Int)) (256 : Int)))), AV.val (Value.int IntKind.u8 (IntKind.wrap IntKind.u8 (bits BinOp.and IntKind.i64 p (65535 : Int))))] → isByteAV x) ::
   (∀ (x : AV), x ∈ [AV.val (Value.int IntKind.u8 0), AV.val (Value.int IntKind.u8 80)] → isByteAV x) ::
   (SameO (some (tdO84 p)) (tdO84 p)) ::
   rp 2 (∀ (x : AV), x ∈ [AV.val (Value.int IntKind.u8 0), AV.val (Value.int IntKind.u8 0)] → isByteAV x) (
   (SameO (some (tdO85 p)) (tdO85 p)) ::
   rp 2 (∀ (x : AV), x ∈ [AV.val (Value.int IntKind.u8 0), AV.val (Value.int IntKind.u8 0)] → isByteAV x) (
   (SameO (some (tdO86 p)) (tdO86 p)) ::
   (∀ (x : AV), x ∈ [AV.val (Value.int IntKind.u8 80), AV.val (Value.int IntKind.u8 (IntKind.wrap IntKind.u8 (bits BinOp.and IntKind.i64 q (63 : Int))))] → isByteAV x) ::
   rp 2 (∀ (x : AV), x ∈ [AV.val (Value.int IntKind.u8 0), AV.val (Value.int IntKind.u8 0)] → isByteAV x) (
   (SameO (some (tdO87 v)) (tdO87 v)) ::
   (14 ≤ 16 ∧ 16 ≤ 16 ∧ ∀ (x : AV), x ∈ [AV.val (Value.int IntKind.u8 8), AV.val (Value.int IntKind.u8 8), AV.val (Value.int IntKind.u8 4), AV.val (Value.int IntKind.u8 (IntKind.wrap IntKind.u8 v))] → isByteAV x) ::
   (4 = 4 ∧ 4 + 4 ≤ 1000000000) ::
   (∀ (x : AV), x ∈ [AV.val (Value.int IntKind.u8 0), AV.val (Value.int IntKind.u8 20)] → isByteAV x) ::
   (32 ≤ 32) ::
   (32 ≤ 100000000) ::
   ((↑(ofL [192, 168, 1, 77, 8, 8, 4, UInt8.ofNat (Int.toNat (IntKind.wrap IntKind.u8 v)), 0, 6, 0, 20, UInt8.ofNat (Int.toNat (IntKind.wrap IntKind.u8 (Int.fdiv (bits BinOp.and IntKind.i64 p (65535 : Int)) (256 : Int)))), UInt8.ofNat (Int.toNat (IntKind.wrap IntKind.u8 (bits BinOp.and IntKind.i64 p (65535 : Int)))), 0, 80, 0, 0, 0, 0, 0, 0, 0, 0, 80, UInt8.ofNat (Int.toNat (IntKind.wrap IntKind.u8 (bits BinOp.and IntKind.i64 q (63 : Int)))), 0, 0, 0, 0, 0, 0]) : Int) = s1) ::
   (16 < 20) ::
   (isByteAV (AV.val (Value.int IntKind.u8 (IntKind.wrap IntKind.u8 (Int.fdiv s1 (256 : Int)))))) ::
   (17 < 20) ::
   (isByteAV (AV.val (Value.int IntKind.u8 (IntKind.wrap IntKind.u8 s1)))) ::
   (∀ (x : AV), x ∈ [AV.val (Value.int IntKind.u8 0), AV.val (Value.int IntKind.u8 40)] → isByteAV x) ::
   rp 2 (∀ (x : AV), x ∈ [AV.val (Value.int IntKind.u8 0), AV.val (Value.int IntKind.u8 0)] → isByteAV x) (
   (14 ≤ 16 ∧ 16 ≤ 16 ∧ ∀ (x : AV), x ∈ [AV.val (Value.int IntKind.u8 8), AV.val (Value.int IntKind.u8 8), AV.val (Value.int IntKind.u8 4), AV.val (Value.int IntKind.u8 (IntKind.wrap IntKind.u8 v))] → isByteAV x) ::
   (16 = 16 ∧ 16 + 4 ≤ 1000000000) ::
   (20 ≤ 20) ::
   ((↑(ofL [69, 0, 0, 40, 0, 0, 0, 0, 64, 6, 0, 0, 192, 168, 1, 77, 8, 8, 4, UInt8.ofNat (Int.toNat (IntKind.wrap IntKind.u8 v))]) : Int) = s2) ::
   (10 < 20) ::
   (isByteAV (AV.val (Value.int IntKind.u8 (IntKind.wrap IntKind.u8 (Int.fdiv s2 (256 : Int)))))) ::
   (11 < 20) ::
   (isByteAV (AV.val (Value.int IntKind.u8 (IntKind.wrap IntKind.u8 s2)))) ::
   (SameO (some (tdO88 v p q s1 s2)) (tdO88 v p q s1 s2)) ::
   (SameO (some tdO89) tdO89) ::
   (∀ (x : AV), x ∈ [AV.val (Value.int IntKind.u8 8), AV.val (Value.int IntKind.u8 0)] → isByteAV x) ::
   (SameO (some (tdO90 p q s1)) (tdO90 p q s1)) ::
   (SameO (some tdO5) tdO5) ::
   ((!ofL [69, 0, 0, 40, 0, 0, 0, 0, 64, 6, UInt8.ofNat (Int.toNat (IntKind.wrap IntKind.u8 (Int.fdiv s2 (256 : Int)))), UInt8.ofNat (Int.toNat (IntKind.wrap IntKind.u8 s2)), 192, 168, 1, 77, 8, 8, 4, UInt8.ofNat (Int.toNat (IntKind.wrap IntKind.u8 v))] == 0) = true) ::
   (SameO (some (tdO91 v p q s1 s2)) (tdO91 v p q s1 s2)) ::
   (SameO (some tdO13) tdO13) ::
   (SameO (some tdO14) tdO14) ::
   (SameO (some tdO15) tdO15) ::
   (SameO (some tdO16) tdO16) ::
   (SameO (some tdO17) tdO17) ::
   (SameO (some tdO18) tdO18) ::
   (SameO (some tdO19) tdO19) ::
   (SameO (some tdO20) tdO20) ::
   (SameO (some tdO21) tdO21) ::
   (SameO (some tdO22) tdO22) ::
   (SameO (some tdO23) tdO23) ::
   (SameO (some tdO24) tdO24) ::
   (SameO (some tdO25) tdO25) ::
   (SameO (some tdO26) tdO26) :: []))))))) := by kernel_rfl

set_option maxRecDepth 100000 in
theorem topDead_13_ok (n : Int) (v : Int) (p : Int) (q : Int) (draw : Int) (secs : Int) (b : List UInt8) (s1 : Int) (s2 : Int) : outT (kDead s1 s2) [(63, { op := [(1, 8, .keep)], ob := [(1, 8)] }),
   (61, { ob := [(1, 4), (1, 8)] }),
   (285, { br := [(39, false)], ob := [(9, 3)] }),
   (189, { ob := [(2, 1)] }),
   (188, { ob := [(1, 1), (4, 3), (5, 1), (6, 1), (7, 1), (8, 1), (9, 1), (11, 1), (11, 3), (12, 1), (13, 1), (14, 1), (15, 3), (16, 2), (16, 3)] }),
   (57, { ob := [(1, 1), (4, 4)] }),
   (278, { op := [(1, 2, .keep)], ob := [(1, 2), (1, 5), (2, 7)] }),
   (179, { ob := [(2, 2)] }),
   (81, { op := [(5, 2, .keep)], ob := [(5, 2)] }),
   (16, { ob := [(1, 1), (8, 3)] }),
   (15, { ob := [(55, 3)] }),
   (173, { ob := [(1, 6)] }),
   (77, { ob := [(1, 2), (5, 3)] }),
   (73, { ob := [(5, 1), (6, 1), (6, 3), (6, 5), (7, 2), (7, 3)] }),
   (71, { ob := [(12, 3), (14, 1), (15, 8), (15, 10)] }),
   (6, { op := [(7, 15, .keep)], ob := [(7, 15)] }),
   (69, { op := [(1, 9, .br false), (1, 21, .br false), (6, 5, .keep), (7, 3, .keep), (7, 6, .keep)], gd := [(1, 5, false), (1, 6, false), (1, 7, false), (1, 8, false), (1, 17, false), (1, 18, false), (1, 19, false), (1, 20, false)], ob := [(6, 5), (7, 3), (7, 6), (8, 10), (9, 3), (10, 3), (13, 2), (14, 8), (14, 10)] }),
   (3, { br := [(10, false)] }),
   (66, { ob := [(1, 8)] })] Tryz.prog 3 [AV.agg [AV.val (Value.int IntKind.i64 13), AV.val (Value.int IntKind.i64 n), AV.val (Value.int IntKind.i64 v), AV.val (Value.int IntKind.i64 p), AV.val (Value.int IntKind.i64 q), AV.val (Value.int IntKind.u32 draw), AV.val (Value.int IntKind.u32 secs), AV.bytes b]] [] 0 =
   some (AV.val (Value.bool true), [], 120373,
   (decide ((↑(List.length b) : Int) > (1600 : Int)) = false) ::
   rp 5 ((!(decide ((0 : Int) ≤ bits BinOp.and IntKind.i64 p (65535 : Int)) && decide (bits BinOp.and IntKind.i64 p (65535 : Int) ≤ (65535 : Int)))) = false) (
   rp 5 ((!(decide ((0 : Int) ≤ bits BinOp.and IntKind.i64 q (63 : Int)) && decide (bits BinOp.and IntKind.i64 q (63 : Int) ≤ (63 : Int)))) = false) (
   (∀ (x : AV), x ∈ [AV.val (Value.int IntKind.u8 (IntKind.wrap IntKind.u8 (Int.fdiv (bits BinOp.and IntKind.i64 p (65535 : Int)) (256 : Int)))), AV.val (Value.int IntKind.u8 (IntKind.wrap IntKind.u8 (bits BinOp.and IntKind.i64 p (65535 : Int))))] → isByteAV x) ::
   (∀ (x : AV), x ∈ [AV.val (Value.int IntKind.u8 0), AV.val (Value.int IntKind.u8 80)] → isByteAV x) ::
   (SameO (some (tdO84 p)) (tdO84 p)) ::
   rp 2 (∀ (x : AV), x ∈ [AV.val (Value.int IntKind.u8 0), AV.val (Value.int IntKind.u8 0)] → isByteAV x) (
   (SameO (some (tdO85 p)) (tdO85 p)) ::
   rp 2 (∀ (x : AV), x ∈ [AV.val (Value.int IntKind.u8 0), AV.val (Value.int IntKind.u8 0)] → isByteAV x) (
   (SameO (some (tdO86 p)) (tdO86 p)) ::
   (∀ (x : AV), x ∈ [AV.val (Value.int IntKind.u8 80), AV.val (Value.int IntKind.u8 (IntKind.wrap IntKind.u8 (bits BinOp.and IntKind.i64 q (63 : Int))))] → isByteAV x) ::
   rp 2 (∀ (x : AV), x ∈ [AV.val (Value.int IntKind.u8 0), AV.val (Value.int IntKind.u8 0)] → isByteAV x) (
   (SameO (some (tdO87 v)) (tdO87 v)) ::
   (14 ≤ 16 ∧ 16 ≤ 16 ∧ ∀ (x : AV), x ∈ [AV.val (Value.int IntKind.u8 8), AV.val (Value.int IntKind.u8 8), AV.val (Value.int IntKind.u8 4), AV.val (Value.int IntKind.u8 (IntKind.wrap IntKind.u8 v))] → isByteAV x) ::
   (4 = 4 ∧ 4 + 4 ≤ 1000000000) ::
   (∀ (x : AV), x ∈ [AV.val (Value.int IntKind.u8 0), AV.val (Value.int IntKind.u8 20)] → isByteAV x) ::
   (32 ≤ 32) ::
   (32 ≤ 100000000) ::
   ((↑(ofL [192, 168, 1, 77, 8, 8, 4, UInt8.ofNat (Int.toNat (IntKind.wrap IntKind.u8 v)), 0, 6, 0, 20, UInt8.ofNat (Int.toNat (IntKind.wrap IntKind.u8 (Int.fdiv (bits BinOp.and IntKind.i64 p (65535 : Int)) (256 : Int)))), UInt8.ofNat (Int.toNat (IntKind.wrap IntKind.u8 (bits BinOp.and IntKind.i64 p (65535 : Int)))), 0, 80, 0, 0, 0, 0, 0, 0, 0, 0, 80, UInt8.ofNat (Int.toNat (IntKind.wrap IntKind.u8 (bits BinOp.and IntKind.i64 q (63 : Int)))), 0, 0, 0, 0, 0, 0]) : Int) = s1) ::
   (16 < 20) ::
   (isByteAV (AV.val (Value.int IntKind.u8 (IntKind.wrap IntKind.u8 (Int.fdiv s1 (256 : Int)))))) ::
   (17 < 20) ::
   (isByteAV (AV.val (Value.int IntKind.u8 (IntKind.wrap IntKind.u8 s1)))) ::
   (∀ (x : AV), x ∈ [AV.val (Value.int IntKind.u8 0), AV.val (Value.int IntKind.u8 40)] → isByteAV x) ::
   rp 2 (∀ (x : AV), x ∈ [AV.val (Value.int IntKind.u8 0), AV.val (Value.int IntKind.u8 0)] → isByteAV x) (
   (14 ≤ 16 ∧ 16 ≤ 16 ∧ ∀ (x : AV), x ∈ [AV.val (Value.int IntKind.u8 8), AV.val (Value.int IntKind.u8 8), AV.val (Value.int IntKind.u8 4), AV.val (Value.int IntKind.u8 (IntKind.wrap IntKind.u8 v))] → isByteAV x) ::
   (16 = 16 ∧ 16 + 4 ≤ 1000000000) ::
   (20 ≤ 20) ::
   ((↑(ofL [69, 0, 0, 40, 0, 0, 0, 0, 64, 6, 0, 0, 192, 168, 1, 77, 8, 8, 4, UInt8.ofNat (Int.toNat (IntKind.wrap IntKind.u8 v))]) : Int) = s2) ::
   (10 < 20) ::
   (isByteAV (AV.val (Value.int IntKind.u8 (IntKind.wrap IntKind.u8 (Int.fdiv s2 (256 : Int)))))) ::
   (11 < 20) ::
   (isByteAV (AV.val (Value.int IntKind.u8 (IntKind.wrap IntKind.u8 s2)))) ::
   (SameO (some (tdO88 v p q s1 s2)) (tdO88 v p q s1 s2)) ::
   (SameO (some tdO89) tdO89) ::
   (∀ (x : AV), x ∈ [AV.val (Value.int IntKind.u8 8), AV.val (Value.int IntKind.u8 0)] → isByteAV x) ::
   (SameO (some (tdO90 p q s1)) (tdO90 p q s1)) ::
   (SameO (some tdO5) tdO5) ::
   ((!ofL [69, 0, 0, 40, 0, 0, 0, 0, 64, 6, UInt8.ofNat (Int.toNat (IntKind.wrap IntKind.u8 (Int.fdiv s2 (256 : Int)))), UInt8.ofNat (Int.toNat (IntKind.wrap IntKind.u8 s2)), 192, 168, 1, 77, 8, 8, 4, UInt8.ofNat (Int.toNat (IntKind.wrap IntKind.u8 v))] == 0) = false) ::
   (SameO (some (tdO91 v p q s1 s2)) (tdO91 v p q s1 s2)) ::
   (SameO (some tdO13) tdO13) ::
   (SameO (some tdO14) tdO14) ::
   (SameO (some tdO15) tdO15) ::
   (SameO (some tdO16) tdO16) ::
   (SameO (some tdO17) tdO17) ::
   (SameO (some tdO18) tdO18) ::
   (SameO (some tdO19) tdO19) ::
   (SameO (some tdO20) tdO20) ::
   (SameO (some tdO21) tdO21) ::
   (SameO (some tdO22) tdO22) ::
   (SameO (some tdO23) tdO23) ::
   (SameO (some tdO24) tdO24) ::
   (SameO (some tdO25) tdO25) ::
   (SameO (some tdO26) tdO26) :: []))))))) := by kernel_rfl
end Go.Proofs.YtbpofglponmpnaaGreatDoor

/- TopDead, reckoned on some of its ways. (Printed by wip/sym/dead.py and foldo.py.) -/
namespace Go.Proofs.YtbpofglponmpnaaGreatDoor
open Go.RowKit

set_option maxRecDepth 100000 in
theorem topDead_9_idbig (n : Int) (v : Int) (p : Int) (q : Int) (draw : Int) (secs : Int) (b : List UInt8) : outT kDead0 [(15, { ob := [(35, 7), (36, 1)] }),
   (166, { op := [(1, 5, .br true)], gd := [(1, 3, true), (1, 4, true)] }),
   (3, { br := [(10, false)] }),
   (67, { op := [(1, 9, .br true)], gd := [(1, 5, true), (1, 6, true), (1, 7, true), (1, 8, true)] })] Tryz.prog 3 [AV.agg [AV.val (Value.int IntKind.i64 9), AV.val (Value.int IntKind.i64 n), AV.val (Value.int IntKind.i64 v), AV.val (Value.int IntKind.i64 p), AV.val (Value.int IntKind.i64 q), AV.val (Value.int IntKind.u32 draw), AV.val (Value.int IntKind.u32 secs), AV.bytes b]] [] 0 =
   some (AV.val (Value.bool true), [], 120898,
   (decide ((↑(List.length b) : Int) > (1600 : Int)) = false) ::
   (∀ (x : AV), x ∈ [AV.val (Value.int IntKind.u8 (IntKind.wrap IntKind.u8 (IntKind.wrap IntKind.i64 ((97 : Int) + bits BinOp.and IntKind.i64 v (15 : Int)))))] → isByteAV x) ::
   rp 3 (decide (p ≥ (0 : Int)) = true) (
   rp 5 ((!decide (p ≤ (65535 : Int))) = true) ( []))) := by kernel_rfl
end Go.Proofs.YtbpofglponmpnaaGreatDoor
