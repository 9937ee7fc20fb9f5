/- Several texts in one: ZiRun, Zi, ZhRun, Zh. -/
import Derived.Test.YtfofhpkafhpicaaGreatDoorMkt
import Derived.Test.YtfofhpkafhpicaaGreatDoorRp
import Derived.Test.YtfofhpkafhpicaaGreatDoorMzu

/- Packets read and written, reckoned. (Printed by wip/sym/pksym.py.) -/
namespace Go.Proofs.YtfofhpkafhpicaaGreatDoor
open Go.RowKit
set_option linter.unusedVariables false
set_option linter.unusedSimpArgs false

set_option maxRecDepth 100000 in
theorem rPut_ok (ttl : Int) (proto : Int) (f0 : Int) (f1 : Int) (f2 : Int) (f3 : Int) (t0 : Int) (t1 : Int) (t2 : Int) (t3 : Int) (body : List UInt8) : outS kSS [(78, { op := [(1, 33, .br false), (1, 39, .br false)], gd := [(1, 29, false), (1, 30, false), (1, 31, false), (1, 32, false), (1, 35, false), (1, 36, false), (1, 37, false), (1, 38, false)], br := [(63, false)], ob := [(8, 3), (9, 7), (10, 7), (11, 3), (12, 3), (14, 1), (15, 8), (15, 10), (16, 3)] }),
   (96000180, { op := [(1, 6, .mrg)], sp := [(1, 3), (1, 4), (1, 5)] }),
   (87000180, { op := [(1, 6, .mrg)], sp := [(1, 3), (1, 4), (1, 5)] }),
   (74, { ob := [(1, 8)] })] Tryz.prog 78 [AV.agg [AV.val (Value.int IntKind.i64 (0 : Int)), AV.val (Value.int IntKind.i64 (0 : Int)), AV.val (Value.int IntKind.i64 (0 : Int)), AV.val (Value.int IntKind.i64 (0 : Int)), AV.val (Value.int IntKind.i64 ttl), AV.val (Value.int IntKind.i64 proto), AV.val (Value.int IntKind.u8 f0), AV.val (Value.int IntKind.u8 f1), AV.val (Value.int IntKind.u8 f2), AV.val (Value.int IntKind.u8 f3), AV.val (Value.int IntKind.u8 t0), AV.val (Value.int IntKind.u8 t1), AV.val (Value.int IntKind.u8 t2), AV.val (Value.int IntKind.u8 t3), AV.bytes [], AV.bytes body]] [] 0 =
   some (AV.tup [AV.sl 224 0 (20 + List.length body) none, AV.val (Value.int IntKind.i64 (0 : Int))], [(224, { t := 5, sz := 1, exact := false, fz := false, body := Body.bytes ((69 : UInt8) :: (0 : UInt8) :: UInt8.ofNat (Int.toNat (IntKind.wrap IntKind.u8 (Int.fdiv (IntKind.wrap IntKind.i64 ((20 : Int) + (↑(List.length body) : Int))) (256 : Int)))) :: UInt8.ofNat (Int.toNat (IntKind.wrap IntKind.u8 (IntKind.wrap IntKind.i64 ((20 : Int) + (↑(List.length body) : Int))))) :: (0 : UInt8) :: (0 : UInt8) :: (0 : UInt8) :: (0 : UInt8) :: UInt8.ofNat (Int.toNat (IntKind.wrap IntKind.u8 ttl)) :: UInt8.ofNat (Int.toNat (IntKind.wrap IntKind.u8 proto)) :: UInt8.ofNat (Int.toNat (IntKind.wrap IntKind.u8 (Int.fdiv (↑(ofL [(69 : UInt8), (0 : UInt8), UInt8.ofNat (Int.toNat (IntKind.wrap IntKind.u8 (Int.fdiv (IntKind.wrap IntKind.i64 ((20 : Int) + (↑(List.length body) : Int))) (256 : Int)))), UInt8.ofNat (Int.toNat (IntKind.wrap IntKind.u8 (IntKind.wrap IntKind.i64 ((20 : Int) + (↑(List.length body) : Int))))), (0 : UInt8), (0 : UInt8), (0 : UInt8), (0 : UInt8), UInt8.ofNat (Int.toNat (IntKind.wrap IntKind.u8 ttl)), UInt8.ofNat (Int.toNat (IntKind.wrap IntKind.u8 proto)), (0 : UInt8), (0 : UInt8), UInt8.ofNat (Int.toNat f0), UInt8.ofNat (Int.toNat f1), UInt8.ofNat (Int.toNat f2), UInt8.ofNat (Int.toNat f3), UInt8.ofNat (Int.toNat t0), UInt8.ofNat (Int.toNat t1), UInt8.ofNat (Int.toNat t2), UInt8.ofNat (Int.toNat t3)]) : Int) (256 : Int)))) :: UInt8.ofNat (Int.toNat (IntKind.wrap IntKind.u8 (↑(ofL [(69 : UInt8), (0 : UInt8), UInt8.ofNat (Int.toNat (IntKind.wrap IntKind.u8 (Int.fdiv (IntKind.wrap IntKind.i64 ((20 : Int) + (↑(List.length body) : Int))) (256 : Int)))), UInt8.ofNat (Int.toNat (IntKind.wrap IntKind.u8 (IntKind.wrap IntKind.i64 ((20 : Int) + (↑(List.length body) : Int))))), (0 : UInt8), (0 : UInt8), (0 : UInt8), (0 : UInt8), UInt8.ofNat (Int.toNat (IntKind.wrap IntKind.u8 ttl)), UInt8.ofNat (Int.toNat (IntKind.wrap IntKind.u8 proto)), (0 : UInt8), (0 : UInt8), UInt8.ofNat (Int.toNat f0), UInt8.ofNat (Int.toNat f1), UInt8.ofNat (Int.toNat f2), UInt8.ofNat (Int.toNat f3), UInt8.ofNat (Int.toNat t0), UInt8.ofNat (Int.toNat t1), UInt8.ofNat (Int.toNat t2), UInt8.ofNat (Int.toNat t3)]) : Int))) :: UInt8.ofNat (Int.toNat f0) :: UInt8.ofNat (Int.toNat f1) :: UInt8.ofNat (Int.toNat f2) :: UInt8.ofNat (Int.toNat f3) :: UInt8.ofNat (Int.toNat t0) :: UInt8.ofNat (Int.toNat t1) :: UInt8.ofNat (Int.toNat t2) :: UInt8.ofNat (Int.toNat t3) :: body) })], 227,
   rp 3 (decide (ttl ≥ (0 : Int)) = true → decide (ttl ≥ (0 : Int)) = true) (
   rp 3 ((!bif decide (ttl ≥ (0 : Int)) then decide (ttl ≤ (255 : Int)) else false) = false) (
   rp 3 (decide (proto ≥ (0 : Int)) = true → decide (proto ≥ (0 : Int)) = true) (
   rp 2 ((!bif decide (ttl ≥ (0 : Int)) then decide (ttl ≤ (255 : Int)) else false) = false) (
   rp 5 ((!bif decide (proto ≥ (0 : Int)) then decide (proto ≤ (255 : Int)) else false) = false) (
   (decide ((↑(List.length body) : Int) > (1480 : Int)) = false) ::
   (∀ (x : AV), x ∈ [AV.val (Value.int IntKind.u8 (IntKind.wrap IntKind.u8 (Int.fdiv (IntKind.wrap IntKind.i64 ((20 : Int) + (↑(List.length body) : Int))) (256 : Int)))), AV.val (Value.int IntKind.u8 (IntKind.wrap IntKind.u8 (IntKind.wrap IntKind.i64 ((20 : Int) + (↑(List.length body) : Int)))))] → isByteAV x) ::
   rp 2 (∀ (x : AV), x ∈ [AV.val (Value.int IntKind.u8 (0 : Int)), AV.val (Value.int IntKind.u8 (0 : Int))] → isByteAV x) (
   (∀ (x : AV), x ∈ [AV.val (Value.int IntKind.u8 (IntKind.wrap IntKind.u8 ttl)), AV.val (Value.int IntKind.u8 (IntKind.wrap IntKind.u8 proto)), AV.val (Value.int IntKind.u8 (0 : Int)), AV.val (Value.int IntKind.u8 (0 : Int))] → isByteAV x) ::
   (10 ≤ 16 ∧ 16 ≤ 16 ∧ ∀ (x : AV), x ∈ [AV.val (Value.int IntKind.u8 f0), AV.val (Value.int IntKind.u8 f1), AV.val (Value.int IntKind.u8 f2), AV.val (Value.int IntKind.u8 f3)] → isByteAV x) ::
   (12 = 12 ∧ 12 + 4 ≤ 1000000000) ::
   (14 ≤ 16 ∧ 16 ≤ 16 ∧ ∀ (x : AV), x ∈ [AV.val (Value.int IntKind.u8 t0), AV.val (Value.int IntKind.u8 t1), AV.val (Value.int IntKind.u8 t2), AV.val (Value.int IntKind.u8 t3)] → isByteAV x) ::
   (16 = 16 ∧ 16 + 4 ≤ 1000000000) ::
   (20 ≤ 20) ::
   (20 ≤ 100000000) ::
   (10 < 20) ::
   (isByteAV (AV.val (Value.int IntKind.u8 (IntKind.wrap IntKind.u8 (Int.fdiv (↑(ofL [(69 : UInt8), (0 : UInt8), UInt8.ofNat (Int.toNat (IntKind.wrap IntKind.u8 (Int.fdiv (IntKind.wrap IntKind.i64 ((20 : Int) + (↑(List.length body) : Int))) (256 : Int)))), UInt8.ofNat (Int.toNat (IntKind.wrap IntKind.u8 (IntKind.wrap IntKind.i64 ((20 : Int) + (↑(List.length body) : Int))))), (0 : UInt8), (0 : UInt8), (0 : UInt8), (0 : UInt8), UInt8.ofNat (Int.toNat (IntKind.wrap IntKind.u8 ttl)), UInt8.ofNat (Int.toNat (IntKind.wrap IntKind.u8 proto)), (0 : UInt8), (0 : UInt8), UInt8.ofNat (Int.toNat f0), UInt8.ofNat (Int.toNat f1), UInt8.ofNat (Int.toNat f2), UInt8.ofNat (Int.toNat f3), UInt8.ofNat (Int.toNat t0), UInt8.ofNat (Int.toNat t1), UInt8.ofNat (Int.toNat t2), UInt8.ofNat (Int.toNat t3)]) : Int) (256 : Int)))))) ::
   (11 < 20) ::
   (isByteAV (AV.val (Value.int IntKind.u8 (IntKind.wrap IntKind.u8 (↑(ofL [(69 : UInt8), (0 : UInt8), UInt8.ofNat (Int.toNat (IntKind.wrap IntKind.u8 (Int.fdiv (IntKind.wrap IntKind.i64 ((20 : Int) + (↑(List.length body) : Int))) (256 : Int)))), UInt8.ofNat (Int.toNat (IntKind.wrap IntKind.u8 (IntKind.wrap IntKind.i64 ((20 : Int) + (↑(List.length body) : Int))))), (0 : UInt8), (0 : UInt8), (0 : UInt8), (0 : UInt8), UInt8.ofNat (Int.toNat (IntKind.wrap IntKind.u8 ttl)), UInt8.ofNat (Int.toNat (IntKind.wrap IntKind.u8 proto)), (0 : UInt8), (0 : UInt8), UInt8.ofNat (Int.toNat f0), UInt8.ofNat (Int.toNat f1), UInt8.ofNat (Int.toNat f2), UInt8.ofNat (Int.toNat f3), UInt8.ofNat (Int.toNat t0), UInt8.ofNat (Int.toNat t1), UInt8.ofNat (Int.toNat t2), UInt8.ofNat (Int.toNat t3)]) : Int))))) ::
   (True) ::
   (20 = 20 ∧ 20 + List.length body ≤ 1000000000) :: []))))))) := by kernel_rfl

set_option maxRecDepth 100000 in
theorem ipPut_ok (ttl : Int) (proto : Int) (f0 : Int) (f1 : Int) (f2 : Int) (f3 : Int) (t0 : Int) (t1 : Int) (t2 : Int) (t3 : Int) (body : List UInt8) : outS kSS [(102000410, { op := [(1, 6, .mrg)], sp := [(1, 3), (1, 4), (1, 5)] }),
   (330, { op := [(1, 27, .br true), (1, 33, .br true)], gd := [(1, 24, true), (1, 25, true), (1, 26, true), (1, 29, true), (1, 30, true), (1, 31, true), (1, 32, true)] }),
   (234, { br := [(15, false)], ob := [(8, 3), (9, 7), (10, 7), (11, 3), (11, 6), (13, 1), (14, 8), (14, 10), (15, 3)] }),
   (231, { ob := [(1, 8)] }),
   (93000410, { op := [(1, 6, .mrg)], sp := [(1, 3), (1, 4), (1, 5)] })] Tryz.prog 234 [AV.agg [AV.val (Value.int IntKind.i64 (0 : Int)), AV.val (Value.int IntKind.i64 (0 : Int)), AV.val (Value.int IntKind.i64 (0 : Int)), AV.val (Value.int IntKind.i64 (0 : Int)), AV.val (Value.int IntKind.i64 ttl), AV.val (Value.int IntKind.i64 proto), AV.val (Value.int IntKind.u8 f0), AV.val (Value.int IntKind.u8 f1), AV.val (Value.int IntKind.u8 f2), AV.val (Value.int IntKind.u8 f3), AV.val (Value.int IntKind.u8 t0), AV.val (Value.int IntKind.u8 t1), AV.val (Value.int IntKind.u8 t2), AV.val (Value.int IntKind.u8 t3), AV.bytes [], AV.bytes body]] [] 0 =
   some (AV.tup [AV.sl 224 0 (20 + List.length body) none, AV.val (Value.int IntKind.i64 (0 : Int))], [(224, { t := 5, sz := 1, exact := false, fz := false, body := Body.bytes ((69 : UInt8) :: (0 : UInt8) :: UInt8.ofNat (Int.toNat (IntKind.wrap IntKind.u8 (Int.fdiv (IntKind.wrap IntKind.i64 ((20 : Int) + (↑(List.length body) : Int))) (256 : Int)))) :: UInt8.ofNat (Int.toNat (IntKind.wrap IntKind.u8 (IntKind.wrap IntKind.i64 ((20 : Int) + (↑(List.length body) : Int))))) :: (0 : UInt8) :: (0 : UInt8) :: (0 : UInt8) :: (0 : UInt8) :: UInt8.ofNat (Int.toNat (IntKind.wrap IntKind.u8 ttl)) :: UInt8.ofNat (Int.toNat (IntKind.wrap IntKind.u8 proto)) :: UInt8.ofNat (Int.toNat (IntKind.wrap IntKind.u8 (Int.fdiv (↑(ofL [(69 : UInt8), (0 : UInt8), UInt8.ofNat (Int.toNat (IntKind.wrap IntKind.u8 (Int.fdiv (IntKind.wrap IntKind.i64 ((20 : Int) + (↑(List.length body) : Int))) (256 : Int)))), UInt8.ofNat (Int.toNat (IntKind.wrap IntKind.u8 (IntKind.wrap IntKind.i64 ((20 : Int) + (↑(List.length body) : Int))))), (0 : UInt8), (0 : UInt8), (0 : UInt8), (0 : UInt8), UInt8.ofNat (Int.toNat (IntKind.wrap IntKind.u8 ttl)), UInt8.ofNat (Int.toNat (IntKind.wrap IntKind.u8 proto)), (0 : UInt8), (0 : UInt8), UInt8.ofNat (Int.toNat f0), UInt8.ofNat (Int.toNat f1), UInt8.ofNat (Int.toNat f2), UInt8.ofNat (Int.toNat f3), UInt8.ofNat (Int.toNat t0), UInt8.ofNat (Int.toNat t1), UInt8.ofNat (Int.toNat t2), UInt8.ofNat (Int.toNat t3)]) : Int) (256 : Int)))) :: UInt8.ofNat (Int.toNat (IntKind.wrap IntKind.u8 (↑(ofL [(69 : UInt8), (0 : UInt8), UInt8.ofNat (Int.toNat (IntKind.wrap IntKind.u8 (Int.fdiv (IntKind.wrap IntKind.i64 ((20 : Int) + (↑(List.length body) : Int))) (256 : Int)))), UInt8.ofNat (Int.toNat (IntKind.wrap IntKind.u8 (IntKind.wrap IntKind.i64 ((20 : Int) + (↑(List.length body) : Int))))), (0 : UInt8), (0 : UInt8), (0 : UInt8), (0 : UInt8), UInt8.ofNat (Int.toNat (IntKind.wrap IntKind.u8 ttl)), UInt8.ofNat (Int.toNat (IntKind.wrap IntKind.u8 proto)), (0 : UInt8), (0 : UInt8), UInt8.ofNat (Int.toNat f0), UInt8.ofNat (Int.toNat f1), UInt8.ofNat (Int.toNat f2), UInt8.ofNat (Int.toNat f3), UInt8.ofNat (Int.toNat t0), UInt8.ofNat (Int.toNat t1), UInt8.ofNat (Int.toNat t2), UInt8.ofNat (Int.toNat t3)]) : Int))) :: UInt8.ofNat (Int.toNat f0) :: UInt8.ofNat (Int.toNat f1) :: UInt8.ofNat (Int.toNat f2) :: UInt8.ofNat (Int.toNat f3) :: UInt8.ofNat (Int.toNat t0) :: UInt8.ofNat (Int.toNat t1) :: UInt8.ofNat (Int.toNat t2) :: UInt8.ofNat (Int.toNat t3) :: body) })], 227,
   rp 3 (decide (ttl ≥ (0 : Int)) = true → decide (ttl ≥ (0 : Int)) = true) (
   rp 3 ((bif decide (ttl ≥ (0 : Int)) then decide (ttl ≤ (255 : Int)) else false) = true) (
   rp 3 (decide (proto ≥ (0 : Int)) = true → decide (proto ≥ (0 : Int)) = true) (
   ((bif decide (ttl ≥ (0 : Int)) then decide (ttl ≤ (255 : Int)) else false) = true) ::
   rp 5 ((bif decide (proto ≥ (0 : Int)) then decide (proto ≤ (255 : Int)) else false) = true) (
   (decide ((↑(List.length body) : Int) > (1480 : Int)) = false) ::
   (∀ (x : AV), x ∈ [AV.val (Value.int IntKind.u8 (IntKind.wrap IntKind.u8 (Int.fdiv (IntKind.wrap IntKind.i64 ((20 : Int) + (↑(List.length body) : Int))) (256 : Int)))), AV.val (Value.int IntKind.u8 (IntKind.wrap IntKind.u8 (IntKind.wrap IntKind.i64 ((20 : Int) + (↑(List.length body) : Int)))))] → isByteAV x) ::
   rp 2 (∀ (x : AV), x ∈ [AV.val (Value.int IntKind.u8 (0 : Int)), AV.val (Value.int IntKind.u8 (0 : Int))] → isByteAV x) (
   (∀ (x : AV), x ∈ [AV.val (Value.int IntKind.u8 (IntKind.wrap IntKind.u8 ttl)), AV.val (Value.int IntKind.u8 (IntKind.wrap IntKind.u8 proto)), AV.val (Value.int IntKind.u8 (0 : Int)), AV.val (Value.int IntKind.u8 (0 : Int))] → isByteAV x) ::
   (10 ≤ 16 ∧ 16 ≤ 16 ∧ ∀ (x : AV), x ∈ [AV.val (Value.int IntKind.u8 f0), AV.val (Value.int IntKind.u8 f1), AV.val (Value.int IntKind.u8 f2), AV.val (Value.int IntKind.u8 f3)] → isByteAV x) ::
   (12 = 12 ∧ 12 + 4 ≤ 1000000000) ::
   (14 ≤ 16 ∧ 16 ≤ 16 ∧ ∀ (x : AV), x ∈ [AV.val (Value.int IntKind.u8 t0), AV.val (Value.int IntKind.u8 t1), AV.val (Value.int IntKind.u8 t2), AV.val (Value.int IntKind.u8 t3)] → isByteAV x) ::
   (16 = 16 ∧ 16 + 4 ≤ 1000000000) ::
   (20 ≤ 20) ::
   (20 ≤ 100000000) ::
   (10 < 20) ::
   (isByteAV (AV.val (Value.int IntKind.u8 (IntKind.wrap IntKind.u8 (Int.fdiv (↑(ofL [(69 : UInt8), (0 : UInt8), UInt8.ofNat (Int.toNat (IntKind.wrap IntKind.u8 (Int.fdiv (IntKind.wrap IntKind.i64 ((20 : Int) + (↑(List.length body) : Int))) (256 : Int)))), UInt8.ofNat (Int.toNat (IntKind.wrap IntKind.u8 (IntKind.wrap IntKind.i64 ((20 : Int) + (↑(List.length body) : Int))))), (0 : UInt8), (0 : UInt8), (0 : UInt8), (0 : UInt8), UInt8.ofNat (Int.toNat (IntKind.wrap IntKind.u8 ttl)), UInt8.ofNat (Int.toNat (IntKind.wrap IntKind.u8 proto)), (0 : UInt8), (0 : UInt8), UInt8.ofNat (Int.toNat f0), UInt8.ofNat (Int.toNat f1), UInt8.ofNat (Int.toNat f2), UInt8.ofNat (Int.toNat f3), UInt8.ofNat (Int.toNat t0), UInt8.ofNat (Int.toNat t1), UInt8.ofNat (Int.toNat t2), UInt8.ofNat (Int.toNat t3)]) : Int) (256 : Int)))))) ::
   (11 < 20) ::
   (isByteAV (AV.val (Value.int IntKind.u8 (IntKind.wrap IntKind.u8 (↑(ofL [(69 : UInt8), (0 : UInt8), UInt8.ofNat (Int.toNat (IntKind.wrap IntKind.u8 (Int.fdiv (IntKind.wrap IntKind.i64 ((20 : Int) + (↑(List.length body) : Int))) (256 : Int)))), UInt8.ofNat (Int.toNat (IntKind.wrap IntKind.u8 (IntKind.wrap IntKind.i64 ((20 : Int) + (↑(List.length body) : Int))))), (0 : UInt8), (0 : UInt8), (0 : UInt8), (0 : UInt8), UInt8.ofNat (Int.toNat (IntKind.wrap IntKind.u8 ttl)), UInt8.ofNat (Int.toNat (IntKind.wrap IntKind.u8 proto)), (0 : UInt8), (0 : UInt8), UInt8.ofNat (Int.toNat f0), UInt8.ofNat (Int.toNat f1), UInt8.ofNat (Int.toNat f2), UInt8.ofNat (Int.toNat f3), UInt8.ofNat (Int.toNat t0), UInt8.ofNat (Int.toNat t1), UInt8.ofNat (Int.toNat t2), UInt8.ofNat (Int.toNat t3)]) : Int))))) ::
   (True) ::
   (20 = 20 ∧ 20 + List.length body ≤ 1000000000) :: [])))))) := by kernel_rfl

set_option maxRecDepth 100000 in
theorem rGet_ok (n1 : UInt8) (n0 : UInt8) (c8 : UInt8) (c9 : UInt8) (s1 : UInt8) (s0 : UInt8) (gf0 : UInt8) (gf1 : UInt8) (gf2 : UInt8) (gf3 : UInt8) (gt0 : UInt8) (gt1 : UInt8) (gt2 : UInt8) (gt3 : UInt8) (rest : List UInt8) (k : Nat) : outT kSS [(27, { ob := [(1, 2)] }),
   (89, { op := [(10, 1, Hn.as (Co2.c (Co1.c (Co0.eq (AV.val (Value.int IntKind.i64 (↑k : Int))))))), (16, 31, Hn.as (Co2.c (Co1.c (Co0.bytes rest))))], br := [(36, false), (42, false), (47, false)], ob := [(16, 19), (16, 22), (16, 31)] })] Tryz.prog 89 [AV.bytes ((69 : UInt8) :: (0 : UInt8) :: n1 :: n0 :: (0 : UInt8) :: (0 : UInt8) :: (0 : UInt8) :: (0 : UInt8) :: c8 :: c9 :: s1 :: s0 :: gf0 :: gf1 :: gf2 :: gf3 :: gt0 :: gt1 :: gt2 :: gt3 :: rest)] [] 0 =
   some (AV.tup [AV.agg [AV.val (Value.int IntKind.i64 (0 : Int)), AV.val (Value.int IntKind.i64 (0 : Int)), AV.val (Value.int IntKind.i64 (0 : Int)), AV.val (Value.int IntKind.i64 (0 : Int)), AV.val (Value.int IntKind.i64 (IntKind.wrap IntKind.i64 (↑(UInt8.toNat c8) : Int))), AV.val (Value.int IntKind.i64 (IntKind.wrap IntKind.i64 (↑(UInt8.toNat c9) : Int))), AV.val (Value.int IntKind.u8 (↑(UInt8.toNat gf0) : Int)), AV.val (Value.int IntKind.u8 (↑(UInt8.toNat gf1) : Int)), AV.val (Value.int IntKind.u8 (↑(UInt8.toNat gf2) : Int)), AV.val (Value.int IntKind.u8 (↑(UInt8.toNat gf3) : Int)), AV.val (Value.int IntKind.u8 (↑(UInt8.toNat gt0) : Int)), AV.val (Value.int IntKind.u8 (↑(UInt8.toNat gt1) : Int)), AV.val (Value.int IntKind.u8 (↑(UInt8.toNat gt2) : Int)), AV.val (Value.int IntKind.u8 (↑(UInt8.toNat gt3) : Int)), AV.sl 157 0 0 none, AV.sl 162 0 (0 + List.length rest) none], AV.val (Value.int IntKind.i64 (0 : Int))], [(162, { t := 5, sz := 1, exact := false, fz := false, body := Body.bytes rest }), (157, { t := 5, sz := 1, exact := false, fz := false, body := Body.bytes [] })], 164,
   (True) ::
   (20 ≤ 100000000) ::
   (((↑(ofL [(69 : UInt8), (0 : UInt8), n1, n0, (0 : UInt8), (0 : UInt8), (0 : UInt8), (0 : UInt8), c8, c9, s1, s0, gf0, gf1, gf2, gf3, gt0, gt1, gt2, gt3]) : Int) != (0 : Int)) = false) ::
   (AV.val (Value.int IntKind.i64 (bits BinOp.or IntKind.i64 (IntKind.wrap IntKind.i64 (IntKind.wrap IntKind.i64 (↑(UInt8.toNat n1) : Int) * (256 : Int))) (IntKind.wrap IntKind.i64 (↑(UInt8.toNat n0) : Int)))) = AV.val (Value.int IntKind.i64 (↑k : Int))) ::
   (decide ((↑k : Int) < (20 : Int)) = false) ::
   (decide ((↑k : Int) > (↑(List.length ((69 : UInt8) :: (0 : UInt8) :: n1 :: n0 :: (0 : UInt8) :: (0 : UInt8) :: (0 : UInt8) :: (0 : UInt8) :: c8 :: c9 :: s1 :: s0 :: gf0 :: gf1 :: gf2 :: gf3 :: gt0 :: gt1 :: gt2 :: gt3 :: rest)) : Int)) = false) ::
   ((0 : Int) ≤ (12 : Int)) ::
   ((0 : Int) ≤ (↑(List.length ((69 : UInt8) :: (0 : UInt8) :: n1 :: n0 :: (0 : UInt8) :: (0 : UInt8) :: (0 : UInt8) :: (0 : UInt8) :: c8 :: c9 :: s1 :: s0 :: gf0 :: gf1 :: gf2 :: gf3 :: gt0 :: gt1 :: gt2 :: gt3 :: rest)) : Int)) ::
   (12 ≤ List.length ((69 : UInt8) :: (0 : UInt8) :: n1 :: n0 :: (0 : UInt8) :: (0 : UInt8) :: (0 : UInt8) :: (0 : UInt8) :: c8 :: c9 :: s1 :: s0 :: gf0 :: gf1 :: gf2 :: gf3 :: gt0 :: gt1 :: gt2 :: gt3 :: rest) ∧ List.length ((69 : UInt8) :: (0 : UInt8) :: n1 :: n0 :: (0 : UInt8) :: (0 : UInt8) :: (0 : UInt8) :: (0 : UInt8) :: c8 :: c9 :: s1 :: s0 :: gf0 :: gf1 :: gf2 :: gf3 :: gt0 :: gt1 :: gt2 :: gt3 :: rest) ≤ List.length ((69 : UInt8) :: (0 : UInt8) :: n1 :: n0 :: (0 : UInt8) :: (0 : UInt8) :: (0 : UInt8) :: (0 : UInt8) :: c8 :: c9 :: s1 :: s0 :: gf0 :: gf1 :: gf2 :: gf3 :: gt0 :: gt1 :: gt2 :: gt3 :: rest)) ::
   ((0 : Int) ≤ (16 : Int)) ::
   ((0 : Int) ≤ (↑(List.length ((69 : UInt8) :: (0 : UInt8) :: n1 :: n0 :: (0 : UInt8) :: (0 : UInt8) :: (0 : UInt8) :: (0 : UInt8) :: c8 :: c9 :: s1 :: s0 :: gf0 :: gf1 :: gf2 :: gf3 :: gt0 :: gt1 :: gt2 :: gt3 :: rest)) : Int)) ::
   (16 ≤ List.length ((69 : UInt8) :: (0 : UInt8) :: n1 :: n0 :: (0 : UInt8) :: (0 : UInt8) :: (0 : UInt8) :: (0 : UInt8) :: c8 :: c9 :: s1 :: s0 :: gf0 :: gf1 :: gf2 :: gf3 :: gt0 :: gt1 :: gt2 :: gt3 :: rest) ∧ List.length ((69 : UInt8) :: (0 : UInt8) :: n1 :: n0 :: (0 : UInt8) :: (0 : UInt8) :: (0 : UInt8) :: (0 : UInt8) :: c8 :: c9 :: s1 :: s0 :: gf0 :: gf1 :: gf2 :: gf3 :: gt0 :: gt1 :: gt2 :: gt3 :: rest) ≤ List.length ((69 : UInt8) :: (0 : UInt8) :: n1 :: n0 :: (0 : UInt8) :: (0 : UInt8) :: (0 : UInt8) :: (0 : UInt8) :: c8 :: c9 :: s1 :: s0 :: gf0 :: gf1 :: gf2 :: gf3 :: gt0 :: gt1 :: gt2 :: gt3 :: rest)) ::
   (True) ::
   (0 = 0 ∧ 0 ≤ 1000000000) ::
   ((0 : Int) ≤ (20 : Int)) ::
   ((0 : Int) ≤ (↑k : Int)) ::
   (20 ≤ k ∧ k ≤ List.length ((69 : UInt8) :: (0 : UInt8) :: n1 :: n0 :: (0 : UInt8) :: (0 : UInt8) :: (0 : UInt8) :: (0 : UInt8) :: c8 :: c9 :: s1 :: s0 :: gf0 :: gf1 :: gf2 :: gf3 :: gt0 :: gt1 :: gt2 :: gt3 :: rest)) ::
   (True) ::
   (List.drop 20 (List.take k ((69 : UInt8) :: (0 : UInt8) :: n1 :: n0 :: (0 : UInt8) :: (0 : UInt8) :: (0 : UInt8) :: (0 : UInt8) :: c8 :: c9 :: s1 :: s0 :: gf0 :: gf1 :: gf2 :: gf3 :: gt0 :: gt1 :: gt2 :: gt3 :: rest)) = rest) ::
   (True) ::
   (0 = 0 ∧ 0 + List.length rest ≤ 1000000000) :: []) := by kernel_rfl

set_option maxRecDepth 100000 in
theorem ipGet_ok (n1 : UInt8) (n0 : UInt8) (c8 : UInt8) (c9 : UInt8) (s1 : UInt8) (s0 : UInt8) (gf0 : UInt8) (gf1 : UInt8) (gf2 : UInt8) (gf3 : UInt8) (gt0 : UInt8) (gt1 : UInt8) (gt2 : UInt8) (gt3 : UInt8) (rest : List UInt8) (k : Nat) : outT kSS [(185, { br := [(16, false)], ob := [(4, 6), (5, 6), (6, 2)] }),
   (182, { ob := [(1, 2)] }),
   (290, { br := [(39, false), (45, false), (49, false)] }),
   (192, { op := [(1, 1, Hn.as (Co2.tup [Co1.c (Co0.eq (AV.val (Value.int IntKind.i64 (20 : Int)))), Co1.c (Co0.eq (AV.val (Value.int IntKind.i64 (↑k : Int)))), Co1.c Co0.keep])), (4, 2, Hn.as (Co2.c (Co1.c (Co0.bytes ((69 : UInt8) :: (0 : UInt8) :: n1 :: n0 :: (0 : UInt8) :: (0 : UInt8) :: (0 : UInt8) :: (0 : UInt8) :: c8 :: c9 :: s1 :: s0 :: gf0 :: gf1 :: gf2 :: gf3 :: gt0 :: gt1 :: gt2 :: gt3 :: rest)))))], ob := [(4, 2), (5, 1), (6, 1), (7, 1), (8, 1), (9, 1), (11, 1), (11, 3), (12, 1), (13, 1), (14, 1), (15, 3), (16, 2), (16, 3)] })] Tryz.prog 192 [AV.bytes ((69 : UInt8) :: (0 : UInt8) :: n1 :: n0 :: (0 : UInt8) :: (0 : UInt8) :: (0 : UInt8) :: (0 : UInt8) :: c8 :: c9 :: s1 :: s0 :: gf0 :: gf1 :: gf2 :: gf3 :: gt0 :: gt1 :: gt2 :: gt3 :: rest)] [] 0 =
   some (AV.tup [AV.agg [AV.val (Value.int IntKind.i64 (↑(UInt8.toNat (0 : UInt8)) : Int)), AV.val (Value.int IntKind.i64 (↑(UInt8.toNat (0 : UInt8) * 256 + UInt8.toNat (0 : UInt8)) : Int)), AV.val (Value.int IntKind.i64 (0 : Int)), AV.val (Value.int IntKind.i64 (0 : Int)), AV.val (Value.int IntKind.i64 (↑(UInt8.toNat c8) : Int)), AV.val (Value.int IntKind.i64 (↑(UInt8.toNat c9) : Int)), AV.val (Value.int IntKind.u8 (IntKind.wrap IntKind.u8 (Int.fdiv (↑(((UInt8.toNat gf0 * 256 + UInt8.toNat gf1) * 256 + UInt8.toNat gf2) * 256 + UInt8.toNat gf3) : Int) (16777216 : Int)))), AV.val (Value.int IntKind.u8 (IntKind.wrap IntKind.u8 (Int.fdiv (↑(((UInt8.toNat gf0 * 256 + UInt8.toNat gf1) * 256 + UInt8.toNat gf2) * 256 + UInt8.toNat gf3) : Int) (65536 : Int)))), AV.val (Value.int IntKind.u8 (IntKind.wrap IntKind.u8 (Int.fdiv (↑(((UInt8.toNat gf0 * 256 + UInt8.toNat gf1) * 256 + UInt8.toNat gf2) * 256 + UInt8.toNat gf3) : Int) (256 : Int)))), AV.val (Value.int IntKind.u8 (IntKind.wrap IntKind.u8 (↑(((UInt8.toNat gf0 * 256 + UInt8.toNat gf1) * 256 + UInt8.toNat gf2) * 256 + UInt8.toNat gf3) : Int))), AV.val (Value.int IntKind.u8 (IntKind.wrap IntKind.u8 (Int.fdiv (↑(((UInt8.toNat gt0 * 256 + UInt8.toNat gt1) * 256 + UInt8.toNat gt2) * 256 + UInt8.toNat gt3) : Int) (16777216 : Int)))), AV.val (Value.int IntKind.u8 (IntKind.wrap IntKind.u8 (Int.fdiv (↑(((UInt8.toNat gt0 * 256 + UInt8.toNat gt1) * 256 + UInt8.toNat gt2) * 256 + UInt8.toNat gt3) : Int) (65536 : Int)))), AV.val (Value.int IntKind.u8 (IntKind.wrap IntKind.u8 (Int.fdiv (↑(((UInt8.toNat gt0 * 256 + UInt8.toNat gt1) * 256 + UInt8.toNat gt2) * 256 + UInt8.toNat gt3) : Int) (256 : Int)))), AV.val (Value.int IntKind.u8 (IntKind.wrap IntKind.u8 (↑(((UInt8.toNat gt0 * 256 + UInt8.toNat gt1) * 256 + UInt8.toNat gt2) * 256 + UInt8.toNat gt3) : Int))), AV.sl 1194 0 0 none, AV.sl 1241 0 (0 + (0 + List.length ((69 : UInt8) :: (0 : UInt8) :: n1 :: n0 :: (0 : UInt8) :: (0 : UInt8) :: (0 : UInt8) :: (0 : UInt8) :: c8 :: c9 :: s1 :: s0 :: gf0 :: gf1 :: gf2 :: gf3 :: gt0 :: gt1 :: gt2 :: gt3 :: rest) - 1 - 1 - 2 - 2 - 2 - 1 - 1 - 2 - 4 - 4)) none], AV.val (Value.int IntKind.i64 (0 : Int))], [(1241, { t := 5, sz := 1, exact := false, fz := false, body := Body.bytes (List.take (0 + List.length ((69 : UInt8) :: (0 : UInt8) :: n1 :: n0 :: (0 : UInt8) :: (0 : UInt8) :: (0 : UInt8) :: (0 : UInt8) :: c8 :: c9 :: s1 :: s0 :: gf0 :: gf1 :: gf2 :: gf3 :: gt0 :: gt1 :: gt2 :: gt3 :: rest) - 1 - 1 - 2 - 2 - 2 - 1 - 1 - 2 - 4 - 4) rest) }), (1194, { t := 5, sz := 1, exact := false, fz := false, body := Body.bytes [] })], 1246,
   (True) ::
   (20 ≤ 100000000) ::
   ((!ofL [(69 : UInt8), (0 : UInt8), n1, n0, (0 : UInt8), (0 : UInt8), (0 : UInt8), (0 : UInt8), c8, c9, s1, s0, gf0, gf1, gf2, gf3, gt0, gt1, gt2, gt3] == 0) = false) ::
   (decide (bits BinOp.or IntKind.i64 (IntKind.wrap IntKind.i64 (IntKind.wrap IntKind.i64 (↑(UInt8.toNat n1) : Int) * (256 : Int))) (IntKind.wrap IntKind.i64 (↑(UInt8.toNat n0) : Int)) < (20 : Int)) = false) ::
   (decide (bits BinOp.or IntKind.i64 (IntKind.wrap IntKind.i64 (IntKind.wrap IntKind.i64 (↑(UInt8.toNat n1) : Int) * (256 : Int))) (IntKind.wrap IntKind.i64 (↑(UInt8.toNat n0) : Int)) > (↑(List.length ((69 : UInt8) :: (0 : UInt8) :: n1 :: n0 :: (0 : UInt8) :: (0 : UInt8) :: (0 : UInt8) :: (0 : UInt8) :: c8 :: c9 :: s1 :: s0 :: gf0 :: gf1 :: gf2 :: gf3 :: gt0 :: gt1 :: gt2 :: gt3 :: rest)) : Int)) = false) ::
   (AV.val (Value.int IntKind.i64 (20 : Int)) = AV.val (Value.int IntKind.i64 (20 : Int))) ::
   (AV.val (Value.int IntKind.i64 (bits BinOp.or IntKind.i64 (IntKind.wrap IntKind.i64 (IntKind.wrap IntKind.i64 (↑(UInt8.toNat n1) : Int) * (256 : Int))) (IntKind.wrap IntKind.i64 (↑(UInt8.toNat n0) : Int)))) = AV.val (Value.int IntKind.i64 (↑k : Int))) ::
   ((0 : Int) ≤ (0 : Int)) ::
   ((0 : Int) ≤ (↑k : Int)) ::
   (0 ≤ k ∧ k ≤ List.length ((69 : UInt8) :: (0 : UInt8) :: n1 :: n0 :: (0 : UInt8) :: (0 : UInt8) :: (0 : UInt8) :: (0 : UInt8) :: c8 :: c9 :: s1 :: s0 :: gf0 :: gf1 :: gf2 :: gf3 :: gt0 :: gt1 :: gt2 :: gt3 :: rest)) ::
   (True) ::
   (List.take k ((69 : UInt8) :: (0 : UInt8) :: n1 :: n0 :: (0 : UInt8) :: (0 : UInt8) :: (0 : UInt8) :: (0 : UInt8) :: c8 :: c9 :: s1 :: s0 :: gf0 :: gf1 :: gf2 :: gf3 :: gt0 :: gt1 :: gt2 :: gt3 :: rest) = (69 : UInt8) :: (0 : UInt8) :: n1 :: n0 :: (0 : UInt8) :: (0 : UInt8) :: (0 : UInt8) :: (0 : UInt8) :: c8 :: c9 :: s1 :: s0 :: gf0 :: gf1 :: gf2 :: gf3 :: gt0 :: gt1 :: gt2 :: gt3 :: rest) ::
   (True) ::
   (0 = 0 ∧ 0 + List.length ((69 : UInt8) :: (0 : UInt8) :: n1 :: n0 :: (0 : UInt8) :: (0 : UInt8) :: (0 : UInt8) :: (0 : UInt8) :: c8 :: c9 :: s1 :: s0 :: gf0 :: gf1 :: gf2 :: gf3 :: gt0 :: gt1 :: gt2 :: gt3 :: rest) ≤ 1000000000) ::
   (1 ≤ 0 + List.length ((69 : UInt8) :: (0 : UInt8) :: n1 :: n0 :: (0 : UInt8) :: (0 : UInt8) :: (0 : UInt8) :: (0 : UInt8) :: c8 :: c9 :: s1 :: s0 :: gf0 :: gf1 :: gf2 :: gf3 :: gt0 :: gt1 :: gt2 :: gt3 :: rest)) ::
   (0 + (0 + List.length ((69 : UInt8) :: (0 : UInt8) :: n1 :: n0 :: (0 : UInt8) :: (0 : UInt8) :: (0 : UInt8) :: (0 : UInt8) :: c8 :: c9 :: s1 :: s0 :: gf0 :: gf1 :: gf2 :: gf3 :: gt0 :: gt1 :: gt2 :: gt3 :: rest)) ≤ List.length ((69 : UInt8) :: (0 : UInt8) :: n1 :: n0 :: (0 : UInt8) :: (0 : UInt8) :: (0 : UInt8) :: (0 : UInt8) :: c8 :: c9 :: s1 :: s0 :: gf0 :: gf1 :: gf2 :: gf3 :: gt0 :: gt1 :: gt2 :: gt3 :: rest)) ::
   (1 ≤ 0 + List.length ((69 : UInt8) :: (0 : UInt8) :: n1 :: n0 :: (0 : UInt8) :: (0 : UInt8) :: (0 : UInt8) :: (0 : UInt8) :: c8 :: c9 :: s1 :: s0 :: gf0 :: gf1 :: gf2 :: gf3 :: gt0 :: gt1 :: gt2 :: gt3 :: rest) - 1) ::
   (1 + (0 + List.length ((69 : UInt8) :: (0 : UInt8) :: n1 :: n0 :: (0 : UInt8) :: (0 : UInt8) :: (0 : UInt8) :: (0 : UInt8) :: c8 :: c9 :: s1 :: s0 :: gf0 :: gf1 :: gf2 :: gf3 :: gt0 :: gt1 :: gt2 :: gt3 :: rest) - 1) ≤ List.length ((69 : UInt8) :: (0 : UInt8) :: n1 :: n0 :: (0 : UInt8) :: (0 : UInt8) :: (0 : UInt8) :: (0 : UInt8) :: c8 :: c9 :: s1 :: s0 :: gf0 :: gf1 :: gf2 :: gf3 :: gt0 :: gt1 :: gt2 :: gt3 :: rest)) ::
   (2 ≤ 0 + List.length ((69 : UInt8) :: (0 : UInt8) :: n1 :: n0 :: (0 : UInt8) :: (0 : UInt8) :: (0 : UInt8) :: (0 : UInt8) :: c8 :: c9 :: s1 :: s0 :: gf0 :: gf1 :: gf2 :: gf3 :: gt0 :: gt1 :: gt2 :: gt3 :: rest) - 1 - 1) ::
   (2 + (0 + List.length ((69 : UInt8) :: (0 : UInt8) :: n1 :: n0 :: (0 : UInt8) :: (0 : UInt8) :: (0 : UInt8) :: (0 : UInt8) :: c8 :: c9 :: s1 :: s0 :: gf0 :: gf1 :: gf2 :: gf3 :: gt0 :: gt1 :: gt2 :: gt3 :: rest) - 1 - 1) ≤ List.length ((69 : UInt8) :: (0 : UInt8) :: n1 :: n0 :: (0 : UInt8) :: (0 : UInt8) :: (0 : UInt8) :: (0 : UInt8) :: c8 :: c9 :: s1 :: s0 :: gf0 :: gf1 :: gf2 :: gf3 :: gt0 :: gt1 :: gt2 :: gt3 :: rest)) ::
   (2 ≤ 0 + List.length ((69 : UInt8) :: (0 : UInt8) :: n1 :: n0 :: (0 : UInt8) :: (0 : UInt8) :: (0 : UInt8) :: (0 : UInt8) :: c8 :: c9 :: s1 :: s0 :: gf0 :: gf1 :: gf2 :: gf3 :: gt0 :: gt1 :: gt2 :: gt3 :: rest) - 1 - 1 - 2) ::
   (4 + (0 + List.length ((69 : UInt8) :: (0 : UInt8) :: n1 :: n0 :: (0 : UInt8) :: (0 : UInt8) :: (0 : UInt8) :: (0 : UInt8) :: c8 :: c9 :: s1 :: s0 :: gf0 :: gf1 :: gf2 :: gf3 :: gt0 :: gt1 :: gt2 :: gt3 :: rest) - 1 - 1 - 2) ≤ List.length ((69 : UInt8) :: (0 : UInt8) :: n1 :: n0 :: (0 : UInt8) :: (0 : UInt8) :: (0 : UInt8) :: (0 : UInt8) :: c8 :: c9 :: s1 :: s0 :: gf0 :: gf1 :: gf2 :: gf3 :: gt0 :: gt1 :: gt2 :: gt3 :: rest)) ::
   (2 ≤ 0 + List.length ((69 : UInt8) :: (0 : UInt8) :: n1 :: n0 :: (0 : UInt8) :: (0 : UInt8) :: (0 : UInt8) :: (0 : UInt8) :: c8 :: c9 :: s1 :: s0 :: gf0 :: gf1 :: gf2 :: gf3 :: gt0 :: gt1 :: gt2 :: gt3 :: rest) - 1 - 1 - 2 - 2) ::
   (6 + (0 + List.length ((69 : UInt8) :: (0 : UInt8) :: n1 :: n0 :: (0 : UInt8) :: (0 : UInt8) :: (0 : UInt8) :: (0 : UInt8) :: c8 :: c9 :: s1 :: s0 :: gf0 :: gf1 :: gf2 :: gf3 :: gt0 :: gt1 :: gt2 :: gt3 :: rest) - 1 - 1 - 2 - 2) ≤ List.length ((69 : UInt8) :: (0 : UInt8) :: n1 :: n0 :: (0 : UInt8) :: (0 : UInt8) :: (0 : UInt8) :: (0 : UInt8) :: c8 :: c9 :: s1 :: s0 :: gf0 :: gf1 :: gf2 :: gf3 :: gt0 :: gt1 :: gt2 :: gt3 :: rest)) ::
   (1 ≤ 0 + List.length ((69 : UInt8) :: (0 : UInt8) :: n1 :: n0 :: (0 : UInt8) :: (0 : UInt8) :: (0 : UInt8) :: (0 : UInt8) :: c8 :: c9 :: s1 :: s0 :: gf0 :: gf1 :: gf2 :: gf3 :: gt0 :: gt1 :: gt2 :: gt3 :: rest) - 1 - 1 - 2 - 2 - 2) ::
   (8 + (0 + List.length ((69 : UInt8) :: (0 : UInt8) :: n1 :: n0 :: (0 : UInt8) :: (0 : UInt8) :: (0 : UInt8) :: (0 : UInt8) :: c8 :: c9 :: s1 :: s0 :: gf0 :: gf1 :: gf2 :: gf3 :: gt0 :: gt1 :: gt2 :: gt3 :: rest) - 1 - 1 - 2 - 2 - 2) ≤ List.length ((69 : UInt8) :: (0 : UInt8) :: n1 :: n0 :: (0 : UInt8) :: (0 : UInt8) :: (0 : UInt8) :: (0 : UInt8) :: c8 :: c9 :: s1 :: s0 :: gf0 :: gf1 :: gf2 :: gf3 :: gt0 :: gt1 :: gt2 :: gt3 :: rest)) ::
   (1 ≤ 0 + List.length ((69 : UInt8) :: (0 : UInt8) :: n1 :: n0 :: (0 : UInt8) :: (0 : UInt8) :: (0 : UInt8) :: (0 : UInt8) :: c8 :: c9 :: s1 :: s0 :: gf0 :: gf1 :: gf2 :: gf3 :: gt0 :: gt1 :: gt2 :: gt3 :: rest) - 1 - 1 - 2 - 2 - 2 - 1) ::
   (9 + (0 + List.length ((69 : UInt8) :: (0 : UInt8) :: n1 :: n0 :: (0 : UInt8) :: (0 : UInt8) :: (0 : UInt8) :: (0 : UInt8) :: c8 :: c9 :: s1 :: s0 :: gf0 :: gf1 :: gf2 :: gf3 :: gt0 :: gt1 :: gt2 :: gt3 :: rest) - 1 - 1 - 2 - 2 - 2 - 1) ≤ List.length ((69 : UInt8) :: (0 : UInt8) :: n1 :: n0 :: (0 : UInt8) :: (0 : UInt8) :: (0 : UInt8) :: (0 : UInt8) :: c8 :: c9 :: s1 :: s0 :: gf0 :: gf1 :: gf2 :: gf3 :: gt0 :: gt1 :: gt2 :: gt3 :: rest)) ::
   (2 ≤ 0 + List.length ((69 : UInt8) :: (0 : UInt8) :: n1 :: n0 :: (0 : UInt8) :: (0 : UInt8) :: (0 : UInt8) :: (0 : UInt8) :: c8 :: c9 :: s1 :: s0 :: gf0 :: gf1 :: gf2 :: gf3 :: gt0 :: gt1 :: gt2 :: gt3 :: rest) - 1 - 1 - 2 - 2 - 2 - 1 - 1) ::
   (10 + (0 + List.length ((69 : UInt8) :: (0 : UInt8) :: n1 :: n0 :: (0 : UInt8) :: (0 : UInt8) :: (0 : UInt8) :: (0 : UInt8) :: c8 :: c9 :: s1 :: s0 :: gf0 :: gf1 :: gf2 :: gf3 :: gt0 :: gt1 :: gt2 :: gt3 :: rest) - 1 - 1 - 2 - 2 - 2 - 1 - 1) ≤ List.length ((69 : UInt8) :: (0 : UInt8) :: n1 :: n0 :: (0 : UInt8) :: (0 : UInt8) :: (0 : UInt8) :: (0 : UInt8) :: c8 :: c9 :: s1 :: s0 :: gf0 :: gf1 :: gf2 :: gf3 :: gt0 :: gt1 :: gt2 :: gt3 :: rest)) ::
   (4 ≤ 0 + List.length ((69 : UInt8) :: (0 : UInt8) :: n1 :: n0 :: (0 : UInt8) :: (0 : UInt8) :: (0 : UInt8) :: (0 : UInt8) :: c8 :: c9 :: s1 :: s0 :: gf0 :: gf1 :: gf2 :: gf3 :: gt0 :: gt1 :: gt2 :: gt3 :: rest) - 1 - 1 - 2 - 2 - 2 - 1 - 1 - 2) ::
   (12 + (0 + List.length ((69 : UInt8) :: (0 : UInt8) :: n1 :: n0 :: (0 : UInt8) :: (0 : UInt8) :: (0 : UInt8) :: (0 : UInt8) :: c8 :: c9 :: s1 :: s0 :: gf0 :: gf1 :: gf2 :: gf3 :: gt0 :: gt1 :: gt2 :: gt3 :: rest) - 1 - 1 - 2 - 2 - 2 - 1 - 1 - 2) ≤ List.length ((69 : UInt8) :: (0 : UInt8) :: n1 :: n0 :: (0 : UInt8) :: (0 : UInt8) :: (0 : UInt8) :: (0 : UInt8) :: c8 :: c9 :: s1 :: s0 :: gf0 :: gf1 :: gf2 :: gf3 :: gt0 :: gt1 :: gt2 :: gt3 :: rest)) ::
   (4 ≤ 0 + List.length ((69 : UInt8) :: (0 : UInt8) :: n1 :: n0 :: (0 : UInt8) :: (0 : UInt8) :: (0 : UInt8) :: (0 : UInt8) :: c8 :: c9 :: s1 :: s0 :: gf0 :: gf1 :: gf2 :: gf3 :: gt0 :: gt1 :: gt2 :: gt3 :: rest) - 1 - 1 - 2 - 2 - 2 - 1 - 1 - 2 - 4) ::
   (16 + (0 + List.length ((69 : UInt8) :: (0 : UInt8) :: n1 :: n0 :: (0 : UInt8) :: (0 : UInt8) :: (0 : UInt8) :: (0 : UInt8) :: c8 :: c9 :: s1 :: s0 :: gf0 :: gf1 :: gf2 :: gf3 :: gt0 :: gt1 :: gt2 :: gt3 :: rest) - 1 - 1 - 2 - 2 - 2 - 1 - 1 - 2 - 4) ≤ List.length ((69 : UInt8) :: (0 : UInt8) :: n1 :: n0 :: (0 : UInt8) :: (0 : UInt8) :: (0 : UInt8) :: (0 : UInt8) :: c8 :: c9 :: s1 :: s0 :: gf0 :: gf1 :: gf2 :: gf3 :: gt0 :: gt1 :: gt2 :: gt3 :: rest)) ::
   (false = false) ::
   rp 3 ((0 : Int) ≤ (0 : Int)) (
   (0 ≤ 0 ∧ 0 ≤ 0 ∧ 20 ≤ List.length ((69 : UInt8) :: (0 : UInt8) :: n1 :: n0 :: (0 : UInt8) :: (0 : UInt8) :: (0 : UInt8) :: (0 : UInt8) :: c8 :: c9 :: s1 :: s0 :: gf0 :: gf1 :: gf2 :: gf3 :: gt0 :: gt1 :: gt2 :: gt3 :: rest)) ::
   ((0 : Int) ≤ (0 : Int)) ::
   ((0 : Int) ≤ (↑(0 + List.length ((69 : UInt8) :: (0 : UInt8) :: n1 :: n0 :: (0 : UInt8) :: (0 : UInt8) :: (0 : UInt8) :: (0 : UInt8) :: c8 :: c9 :: s1 :: s0 :: gf0 :: gf1 :: gf2 :: gf3 :: gt0 :: gt1 :: gt2 :: gt3 :: rest) - 1 - 1 - 2 - 2 - 2 - 1 - 1 - 2 - 4 - 4) : Int)) ::
   (0 ≤ 0 + List.length ((69 : UInt8) :: (0 : UInt8) :: n1 :: n0 :: (0 : UInt8) :: (0 : UInt8) :: (0 : UInt8) :: (0 : UInt8) :: c8 :: c9 :: s1 :: s0 :: gf0 :: gf1 :: gf2 :: gf3 :: gt0 :: gt1 :: gt2 :: gt3 :: rest) - 1 - 1 - 2 - 2 - 2 - 1 - 1 - 2 - 4 - 4 ∧ 20 + (0 + List.length ((69 : UInt8) :: (0 : UInt8) :: n1 :: n0 :: (0 : UInt8) :: (0 : UInt8) :: (0 : UInt8) :: (0 : UInt8) :: c8 :: c9 :: s1 :: s0 :: gf0 :: gf1 :: gf2 :: gf3 :: gt0 :: gt1 :: gt2 :: gt3 :: rest) - 1 - 1 - 2 - 2 - 2 - 1 - 1 - 2 - 4 - 4) ≤ List.length ((69 : UInt8) :: (0 : UInt8) :: n1 :: n0 :: (0 : UInt8) :: (0 : UInt8) :: (0 : UInt8) :: (0 : UInt8) :: c8 :: c9 :: s1 :: s0 :: gf0 :: gf1 :: gf2 :: gf3 :: gt0 :: gt1 :: gt2 :: gt3 :: rest)) ::
   (20 ≤ List.length ((69 : UInt8) :: (0 : UInt8) :: n1 :: n0 :: (0 : UInt8) :: (0 : UInt8) :: (0 : UInt8) :: (0 : UInt8) :: c8 :: c9 :: s1 :: s0 :: gf0 :: gf1 :: gf2 :: gf3 :: gt0 :: gt1 :: gt2 :: gt3 :: rest)) ::
   (0 = 0 ∧ 0 ≤ 1000000000) ::
   (decide ((↑(0 + List.length ((69 : UInt8) :: (0 : UInt8) :: n1 :: n0 :: (0 : UInt8) :: (0 : UInt8) :: (0 : UInt8) :: (0 : UInt8) :: c8 :: c9 :: s1 :: s0 :: gf0 :: gf1 :: gf2 :: gf3 :: gt0 :: gt1 :: gt2 :: gt3 :: rest) - 1 - 1 - 2 - 2 - 2 - 1 - 1 - 2 - 4 - 4) : Int) > (↑(0 + List.length ((69 : UInt8) :: (0 : UInt8) :: n1 :: n0 :: (0 : UInt8) :: (0 : UInt8) :: (0 : UInt8) :: (0 : UInt8) :: c8 :: c9 :: s1 :: s0 :: gf0 :: gf1 :: gf2 :: gf3 :: gt0 :: gt1 :: gt2 :: gt3 :: rest) - 1 - 1 - 2 - 2 - 2 - 1 - 1 - 2 - 4 - 4) : Int)) = false) ::
   ((0 : Int) ≤ (0 : Int)) ::
   rp 2 ((0 : Int) ≤ (↑(0 + List.length ((69 : UInt8) :: (0 : UInt8) :: n1 :: n0 :: (0 : UInt8) :: (0 : UInt8) :: (0 : UInt8) :: (0 : UInt8) :: c8 :: c9 :: s1 :: s0 :: gf0 :: gf1 :: gf2 :: gf3 :: gt0 :: gt1 :: gt2 :: gt3 :: rest) - 1 - 1 - 2 - 2 - 2 - 1 - 1 - 2 - 4 - 4) : Int)) (
   (0 ≤ 0 + List.length ((69 : UInt8) :: (0 : UInt8) :: n1 :: n0 :: (0 : UInt8) :: (0 : UInt8) :: (0 : UInt8) :: (0 : UInt8) :: c8 :: c9 :: s1 :: s0 :: gf0 :: gf1 :: gf2 :: gf3 :: gt0 :: gt1 :: gt2 :: gt3 :: rest) - 1 - 1 - 2 - 2 - 2 - 1 - 1 - 2 - 4 - 4 ∧ 0 + List.length ((69 : UInt8) :: (0 : UInt8) :: n1 :: n0 :: (0 : UInt8) :: (0 : UInt8) :: (0 : UInt8) :: (0 : UInt8) :: c8 :: c9 :: s1 :: s0 :: gf0 :: gf1 :: gf2 :: gf3 :: gt0 :: gt1 :: gt2 :: gt3 :: rest) - 1 - 1 - 2 - 2 - 2 - 1 - 1 - 2 - 4 - 4 ≤ 0 + List.length ((69 : UInt8) :: (0 : UInt8) :: n1 :: n0 :: (0 : UInt8) :: (0 : UInt8) :: (0 : UInt8) :: (0 : UInt8) :: c8 :: c9 :: s1 :: s0 :: gf0 :: gf1 :: gf2 :: gf3 :: gt0 :: gt1 :: gt2 :: gt3 :: rest) - 1 - 1 - 2 - 2 - 2 - 1 - 1 - 2 - 4 - 4 ∧ 20 + (0 + List.length ((69 : UInt8) :: (0 : UInt8) :: n1 :: n0 :: (0 : UInt8) :: (0 : UInt8) :: (0 : UInt8) :: (0 : UInt8) :: c8 :: c9 :: s1 :: s0 :: gf0 :: gf1 :: gf2 :: gf3 :: gt0 :: gt1 :: gt2 :: gt3 :: rest) - 1 - 1 - 2 - 2 - 2 - 1 - 1 - 2 - 4 - 4) ≤ List.length ((69 : UInt8) :: (0 : UInt8) :: n1 :: n0 :: (0 : UInt8) :: (0 : UInt8) :: (0 : UInt8) :: (0 : UInt8) :: c8 :: c9 :: s1 :: s0 :: gf0 :: gf1 :: gf2 :: gf3 :: gt0 :: gt1 :: gt2 :: gt3 :: rest)) ::
   rp 2 ((0 : Int) ≤ (↑(0 + List.length ((69 : UInt8) :: (0 : UInt8) :: n1 :: n0 :: (0 : UInt8) :: (0 : UInt8) :: (0 : UInt8) :: (0 : UInt8) :: c8 :: c9 :: s1 :: s0 :: gf0 :: gf1 :: gf2 :: gf3 :: gt0 :: gt1 :: gt2 :: gt3 :: rest) - 1 - 1 - 2 - 2 - 2 - 1 - 1 - 2 - 4 - 4) : Int)) (
   (0 + List.length ((69 : UInt8) :: (0 : UInt8) :: n1 :: n0 :: (0 : UInt8) :: (0 : UInt8) :: (0 : UInt8) :: (0 : UInt8) :: c8 :: c9 :: s1 :: s0 :: gf0 :: gf1 :: gf2 :: gf3 :: gt0 :: gt1 :: gt2 :: gt3 :: rest) - 1 - 1 - 2 - 2 - 2 - 1 - 1 - 2 - 4 - 4 ≤ 0 + List.length ((69 : UInt8) :: (0 : UInt8) :: n1 :: n0 :: (0 : UInt8) :: (0 : UInt8) :: (0 : UInt8) :: (0 : UInt8) :: c8 :: c9 :: s1 :: s0 :: gf0 :: gf1 :: gf2 :: gf3 :: gt0 :: gt1 :: gt2 :: gt3 :: rest) - 1 - 1 - 2 - 2 - 2 - 1 - 1 - 2 - 4 - 4 ∧ 20 + (0 + List.length ((69 : UInt8) :: (0 : UInt8) :: n1 :: n0 :: (0 : UInt8) :: (0 : UInt8) :: (0 : UInt8) :: (0 : UInt8) :: c8 :: c9 :: s1 :: s0 :: gf0 :: gf1 :: gf2 :: gf3 :: gt0 :: gt1 :: gt2 :: gt3 :: rest) - 1 - 1 - 2 - 2 - 2 - 1 - 1 - 2 - 4 - 4) ≤ List.length ((69 : UInt8) :: (0 : UInt8) :: n1 :: n0 :: (0 : UInt8) :: (0 : UInt8) :: (0 : UInt8) :: (0 : UInt8) :: c8 :: c9 :: s1 :: s0 :: gf0 :: gf1 :: gf2 :: gf3 :: gt0 :: gt1 :: gt2 :: gt3 :: rest)) ::
   (20 + (0 + List.length ((69 : UInt8) :: (0 : UInt8) :: n1 :: n0 :: (0 : UInt8) :: (0 : UInt8) :: (0 : UInt8) :: (0 : UInt8) :: c8 :: c9 :: s1 :: s0 :: gf0 :: gf1 :: gf2 :: gf3 :: gt0 :: gt1 :: gt2 :: gt3 :: rest) - 1 - 1 - 2 - 2 - 2 - 1 - 1 - 2 - 4 - 4) ≤ List.length ((69 : UInt8) :: (0 : UInt8) :: n1 :: n0 :: (0 : UInt8) :: (0 : UInt8) :: (0 : UInt8) :: (0 : UInt8) :: c8 :: c9 :: s1 :: s0 :: gf0 :: gf1 :: gf2 :: gf3 :: gt0 :: gt1 :: gt2 :: gt3 :: rest)) ::
   (0 = 0 ∧ 0 + (0 + List.length ((69 : UInt8) :: (0 : UInt8) :: n1 :: n0 :: (0 : UInt8) :: (0 : UInt8) :: (0 : UInt8) :: (0 : UInt8) :: c8 :: c9 :: s1 :: s0 :: gf0 :: gf1 :: gf2 :: gf3 :: gt0 :: gt1 :: gt2 :: gt3 :: rest) - 1 - 1 - 2 - 2 - 2 - 1 - 1 - 2 - 4 - 4) ≤ 1000000000) :: [])))) := by kernel_rfl
end Go.Proofs.YtfofhpkafhpicaaGreatDoor

/- Packets written and read, the document's and the program's; a packet's time is made less: contracts. -/
namespace Go.Proofs.YtfofhpkafhpicaaGreatDoor
open Go.RowKit
set_option linter.unusedSimpArgs false
set_option linter.unusedVariables false

/-- a packet's bytes, one by one -/
theorem ipP_form (ttl proto f0 f1 f2 f3 t0 t1 t2 t3 : Int) (body : List UInt8) : ∃ s : Nat, s ≤ 65535 ∧ s = ofL [69, 0, lo8 ((20 + (body.length : Int)) / 256), lo8 (20 + (body.length : Int)), 0, 0, 0, 0, lo8 ttl, lo8 proto, 0, 0, u8o f0, u8o f1, u8o f2, u8o f3, u8o t0, u8o t1, u8o t2, u8o t3] ∧
    ipP ttl proto f0 f1 f2 f3 t0 t1 t2 t3 body = 69 :: 0 :: lo8 ((20 + (body.length : Int)) / 256) :: lo8 (20 + (body.length : Int)) :: 0 :: 0 :: 0 :: 0 :: lo8 ttl :: lo8 proto :: lo8 ((s : Int) / 256) :: lo8 s :: u8o f0 :: u8o f1 :: u8o f2 :: u8o f3 :: u8o t0 :: u8o t1 :: u8o t2 :: u8o t3 :: body := by
  have c69 : lo8 (64 + (20 + ((List.length ([] : List UInt8) : Nat) : Int)) / 4) = 69 := by decide
  have c0 : lo8 0 = 0 := by decide
  have c0' : lo8 (0 / 256) = 0 := by decide
  have cx : lo8 ((0 * 8192 + 0) / 256) = 0 := by decide
  have cx' : lo8 (0 * 8192 + 0) = 0 := by decide
  refine ⟨_, ofL_le _, rfl, ?_⟩
  unfold ipP ipH
  simp only [c69, c0, c0', cx, cx', List.cons_append, List.nil_append]
  rfl
theorem four_u8 (a b c d : UInt8) : IntKind.u8.wrap (Int.fdiv ((((a.toNat * 256 + b.toNat) * 256 + c.toNat) * 256 + d.toNat : Nat) : Int) 16777216) = a.toNat ∧ IntKind.u8.wrap (Int.fdiv ((((a.toNat * 256 + b.toNat) * 256 + c.toNat) * 256 + d.toNat : Nat) : Int) 65536) = b.toNat ∧ IntKind.u8.wrap (Int.fdiv ((((a.toNat * 256 + b.toNat) * 256 + c.toNat) * 256 + d.toNat : Nat) : Int) 256) = c.toNat ∧ IntKind.u8.wrap ((((a.toNat * 256 + b.toNat) * 256 + c.toNat) * 256 + d.toNat : Nat) : Int) = d.toNat := by
  have := a.toNat_lt
  have := b.toNat_lt
  have := c.toNat_lt
  have := d.toNat_lt
  simp only [wu8, fd16777216, fd65536, fd256]
  omega
theorem b20 (a b : UInt8) (h : 20 ≤ a.toNat * 256 + b.toNat) : True := True.intro
theorem u8_back (f : Int) (h : 0 ≤ f ∧ f < 256) : ((u8o f).toNat : Int) = f := u8_of f h
theorem lo8_back (z : Int) (h : 0 ≤ z ∧ z ≤ 255) : ((lo8 z).toNat : Int) = z := by rw [lo8_toNat]; omega
theorem not_beq0 {n : Nat} (h : n = 0) : (!((n : Nat) == 0)) = false := by rw [h]; rfl

set_option maxHeartbeats 4000000 in
set_option maxRecDepth 10000 in
theorem rGet_g (n1 n0 c8 c9 s1 s0 g0 g1 g2 g3 h0 h1 h2 h3 : UInt8) (rest : List UInt8) (k : Nat) (hk : n1.toNat * 256 + n0.toNat = k) (hr : k = 20 + rest.length) (hl : rest.length ≤ 2000) (hs : ofL [69, 0, n1, n0, 0, 0, 0, 0, c8, c9, s1, s0, g0, g1, g2, g3, h0, h1, h2, h3] = 0) :
    ACall Tryz.prog 89 [.bytes (69 :: 0 :: n1 :: n0 :: 0 :: 0 :: 0 :: 0 :: c8 :: c9 :: s1 :: s0 :: g0 :: g1 :: g2 :: g3 :: h0 :: h1 :: h2 :: h3 :: rest)] [] 0
      (.tup [pkA 0 0 0 0 (c8.toNat : Nat) (c9.toNat : Nat) (g0.toNat : Nat) (g1.toNat : Nat) (g2.toNat : Nat) (g3.toNat : Nat) (h0.toNat : Nat) (h1.toNat : Nat) (h2.toNat : Nat) (h3.toNat : Nat) (.sl 0 0 0 none) (.sl 1 0 rest.length none), .val (.int .i64 0)]) [(0, objApp 5 []), (1, objApp 5 rest)] 2 := by
  have hlen : (69 :: 0 :: n1 :: n0 :: 0 :: 0 :: 0 :: 0 :: c8 :: c9 :: s1 :: s0 :: g0 :: g1 :: g2 :: g3 :: h0 :: h1 :: h2 :: h3 :: rest).length = k := by simp only [List.length_cons]; omega
  have tk : List.take k (69 :: 0 :: n1 :: n0 :: 0 :: 0 :: 0 :: 0 :: c8 :: c9 :: s1 :: s0 :: g0 :: g1 :: g2 :: g3 :: h0 :: h1 :: h2 :: h3 :: rest) = 69 :: 0 :: n1 :: n0 :: 0 :: 0 :: 0 :: 0 :: c8 :: c9 :: s1 :: s0 :: g0 :: g1 :: g2 :: g3 :: h0 :: h1 :: h2 :: h3 :: rest := tk_all hlen
  have dk : List.drop 20 (List.take k (69 :: 0 :: n1 :: n0 :: 0 :: 0 :: 0 :: 0 :: c8 :: c9 :: s1 :: s0 :: g0 :: g1 :: g2 :: g3 :: h0 :: h1 :: h2 :: h3 :: rest)) = rest := by rw [tk]; rfl
  have hs1 : (((ofL [69, 0, n1, n0, 0, 0, 0, 0, c8, c9, s1, s0, g0, g1, g2, g3, h0, h1, h2, h3] : Nat) : Int) != (0 : Int)) = false := bne_f0 hs
  have hs2 : (!(ofL [69, 0, n1, n0, 0, 0, 0, 0, c8, c9, s1, s0, g0, g1, g2, g3, h0, h1, h2, h3] == 0)) = false := not_beq0 hs
  have w8 : IntKind.i64.wrap ((c8.toNat : Nat) : Int) = (c8.toNat : Nat) := wrap64_u8 c8
  have w9 : IntKind.i64.wrap ((c9.toNat : Nat) : Int) = (c9.toNat : Nat) := wrap64_u8 c9
  have q1 := four_u8 g0 g1 g2 g3
  have q2 := four_u8 h0 h1 h2 h3
  have z0 : UInt8.toNat 0 = 0 := rfl
  have hx : 0 + k - 1 - 1 - 2 - 2 - 2 - 1 - 1 - 2 - 4 - 4 = rest.length := by omega
  have hxx : k - 1 - 1 - 2 - 2 - 2 - 1 - 1 - 2 - 4 - 4 = rest.length := by omega
  have tr : List.take rest.length rest = rest := List.take_length
  have h := (outT_ok kSS_ok (rGet_ok n1 n0 c8 c9 s1 s0 g0 g1 g2 g3 h0 h1 h2 h3 rest k) (by
    repeat' (first | exact allNil | refine allCons ?_ ?_ | (with_reducible refine allRp _ ?_ ?_))
    all_goals ((try simp only [pair_raw, hlen, hk, hx, z0]) <;> (first | exact True.intro | (with_reducible rfl) | (with_reducible assumption) | omega | (exact ⟨True.intro, by omega⟩) | (exact ⟨by omega, by omega⟩) | (exact ⟨by omega, by omega, by omega⟩) | (exact ⟨by omega, by omega, memA4 b0 b1 b2 b3⟩) | (exact ⟨by omega, by omega, memA4 b4 b5 b6 b7⟩) | (exact memA2 (byte_w _) (byte_w _)) | (exact memA2 byte_0 byte_0) | (exact memA4 (byte_w _) (byte_w _) byte_0 byte_0) | (exact byte_w _) | (exact decide_eq_false (by omega)) | (exact decide_eq_true (by omega)) | (with_reducible exact congrArg (fun z => AV.val (Value.int IntKind.i64 z)) (by omega)) | (with_reducible exact congrArg (fun z => AV.val (Value.int IntKind.i64 z)) (by rw [w64 _ (by omega)]; omega)))))).1
  simp only [w8, w9, Nat.zero_add] at h
  refine h.renew [157, 162] (by decide) (by decide) (by decide) (by simp [AV.ren, renL, renX, pkA]) (fun m x hm => ?_)
  simp only [hp] at hm
  split at hm
  · rename_i e; subst e; injection hm with hm; subst hm; simp [hp, renX, AObj.ren, objApp]
  · split at hm
    · rename_i e; subst e; injection hm with hm; subst hm; simp [hp, renX, AObj.ren, objApp]
    · cases hm
theorem rGet_c (ttl proto f0 f1 f2 f3 t0 t1 t2 t3 : Int) (body ys : List UInt8) (h : ys = ipP ttl proto f0 f1 f2 f3 t0 t1 t2 t3 body) (ht : 0 ≤ ttl ∧ ttl ≤ 255) (hp' : 0 ≤ proto ∧ proto ≤ 255) (hb : byteP [f0, f1, f2, f3, t0, t1, t2, t3]) (hl : body.length ≤ 1480) :
    ACall Tryz.prog 89 [.bytes ys] [] 0
      (.tup [pkA 0 0 0 0 ttl proto f0 f1 f2 f3 t0 t1 t2 t3 (.sl 0 0 0 none) (.sl 1 0 body.length none), .val (.int .i64 0)]) [(0, objApp 5 []), (1, objApp 5 body)] 2 := by
  obtain ⟨b0, b1, b2, b3, b4, b5, b6, b7⟩ := byte8_inv hb
  have h20 := ipP_sum ttl proto f0 f1 f2 f3 t0 t1 t2 t3 body
  obtain ⟨s, hs, hs', e⟩ := ipP_form ttl proto f0 f1 f2 f3 t0 t1 t2 t3 body
  rw [e] at h20
  subst h
  rw [e]
  have r := rGet_g _ _ _ _ _ _ _ _ _ _ _ _ _ _ body (20 + body.length) (by
    have a := lo8_toNat ((20 + (body.length : Int)) / 256)
    have b := lo8_toNat (20 + (body.length : Int))
    omega) rfl (by omega) h20
  rw [lo8_back ttl ht, lo8_back proto hp', u8_back f0 b0, u8_back f1 b1, u8_back f2 b2, u8_back f3 b3, u8_back t0 b4, u8_back t1 b5, u8_back t2 b6, u8_back t3 b7] at r
  exact r

set_option maxHeartbeats 4000000 in
set_option maxRecDepth 10000 in
theorem ipGet_g (n1 n0 c8 c9 s1 s0 g0 g1 g2 g3 h0 h1 h2 h3 : UInt8) (rest : List UInt8) (k : Nat) (hk : n1.toNat * 256 + n0.toNat = k) (hr : k = 20 + rest.length) (hl : rest.length ≤ 2000) (hs : ofL [69, 0, n1, n0, 0, 0, 0, 0, c8, c9, s1, s0, g0, g1, g2, g3, h0, h1, h2, h3] = 0) :
    ACall Tryz.prog 192 [.bytes (69 :: 0 :: n1 :: n0 :: 0 :: 0 :: 0 :: 0 :: c8 :: c9 :: s1 :: s0 :: g0 :: g1 :: g2 :: g3 :: h0 :: h1 :: h2 :: h3 :: rest)] [] 0
      (.tup [pkA 0 0 0 0 (c8.toNat : Nat) (c9.toNat : Nat) (g0.toNat : Nat) (g1.toNat : Nat) (g2.toNat : Nat) (g3.toNat : Nat) (h0.toNat : Nat) (h1.toNat : Nat) (h2.toNat : Nat) (h3.toNat : Nat) (.sl 0 0 0 none) (.sl 1 0 rest.length none), .val (.int .i64 0)]) [(0, objApp 5 []), (1, objApp 5 rest)] 2 := by
  have hlen : (69 :: 0 :: n1 :: n0 :: 0 :: 0 :: 0 :: 0 :: c8 :: c9 :: s1 :: s0 :: g0 :: g1 :: g2 :: g3 :: h0 :: h1 :: h2 :: h3 :: rest).length = k := by simp only [List.length_cons]; omega
  have tk : List.take k (69 :: 0 :: n1 :: n0 :: 0 :: 0 :: 0 :: 0 :: c8 :: c9 :: s1 :: s0 :: g0 :: g1 :: g2 :: g3 :: h0 :: h1 :: h2 :: h3 :: rest) = 69 :: 0 :: n1 :: n0 :: 0 :: 0 :: 0 :: 0 :: c8 :: c9 :: s1 :: s0 :: g0 :: g1 :: g2 :: g3 :: h0 :: h1 :: h2 :: h3 :: rest := tk_all hlen
  have dk : List.drop 20 (List.take k (69 :: 0 :: n1 :: n0 :: 0 :: 0 :: 0 :: 0 :: c8 :: c9 :: s1 :: s0 :: g0 :: g1 :: g2 :: g3 :: h0 :: h1 :: h2 :: h3 :: rest)) = rest := by rw [tk]; rfl
  have hs1 : (((ofL [69, 0, n1, n0, 0, 0, 0, 0, c8, c9, s1, s0, g0, g1, g2, g3, h0, h1, h2, h3] : Nat) : Int) != (0 : Int)) = false := bne_f0 hs
  have hs2 : (!(ofL [69, 0, n1, n0, 0, 0, 0, 0, c8, c9, s1, s0, g0, g1, g2, g3, h0, h1, h2, h3] == 0)) = false := not_beq0 hs
  have w8 : IntKind.i64.wrap ((c8.toNat : Nat) : Int) = (c8.toNat : Nat) := wrap64_u8 c8
  have w9 : IntKind.i64.wrap ((c9.toNat : Nat) : Int) = (c9.toNat : Nat) := wrap64_u8 c9
  have q1 := four_u8 g0 g1 g2 g3
  have q2 := four_u8 h0 h1 h2 h3
  have z0 : UInt8.toNat 0 = 0 := rfl
  have hx : 0 + k - 1 - 1 - 2 - 2 - 2 - 1 - 1 - 2 - 4 - 4 = rest.length := by omega
  have hxx : k - 1 - 1 - 2 - 2 - 2 - 1 - 1 - 2 - 4 - 4 = rest.length := by omega
  have tr : List.take rest.length rest = rest := List.take_length
  have h := (outT_ok kSS_ok (ipGet_ok n1 n0 c8 c9 s1 s0 g0 g1 g2 g3 h0 h1 h2 h3 rest k) (by
    repeat' (first | exact allNil | refine allCons ?_ ?_ | (with_reducible refine allRp _ ?_ ?_))
    all_goals ((try simp only [pair_raw, hlen, hk, hx, z0]) <;> (first | exact True.intro | (with_reducible rfl) | (with_reducible assumption) | omega | (exact ⟨True.intro, by omega⟩) | (exact ⟨by omega, by omega⟩) | (exact ⟨by omega, by omega, by omega⟩) | (exact ⟨by omega, by omega, memA4 b0 b1 b2 b3⟩) | (exact ⟨by omega, by omega, memA4 b4 b5 b6 b7⟩) | (exact memA2 (byte_w _) (byte_w _)) | (exact memA2 byte_0 byte_0) | (exact memA4 (byte_w _) (byte_w _) byte_0 byte_0) | (exact byte_w _) | (exact decide_eq_false (by omega)) | (exact decide_eq_true (by omega)) | (with_reducible exact congrArg (fun z => AV.val (Value.int IntKind.i64 z)) (by omega)) | (with_reducible exact congrArg (fun z => AV.val (Value.int IntKind.i64 z)) (by rw [w64 _ (by omega)]; omega)))))).1
  simp only [q1.1, q1.2.1, q1.2.2.1, q1.2.2.2, q2.1, q2.2.1, q2.2.2.1, q2.2.2.2, z0, Nat.zero_add, hlen, hx, hxx, Nat.zero_mul, Nat.add_zero, Int.natCast_zero, Int.ofNat_zero, tr] at h
  refine h.renew [1194, 1241] (by decide) (by decide) (by decide) (by simp [AV.ren, renL, renX, pkA]) (fun m x hm => ?_)
  simp only [hp] at hm
  split at hm
  · rename_i e; subst e; injection hm with hm; subst hm; simp [hp, renX, AObj.ren, objApp]
  · split at hm
    · rename_i e; subst e; injection hm with hm; subst hm; simp [hp, renX, AObj.ren, objApp]
    · cases hm
theorem ipGet_c (ttl proto f0 f1 f2 f3 t0 t1 t2 t3 : Int) (body ys : List UInt8) (h : ys = ipP ttl proto f0 f1 f2 f3 t0 t1 t2 t3 body) (ht : 0 ≤ ttl ∧ ttl ≤ 255) (hp' : 0 ≤ proto ∧ proto ≤ 255) (hb : byteP [f0, f1, f2, f3, t0, t1, t2, t3]) (hl : body.length ≤ 1480) :
    ACall Tryz.prog 192 [.bytes ys] [] 0
      (.tup [pkA 0 0 0 0 ttl proto f0 f1 f2 f3 t0 t1 t2 t3 (.sl 0 0 0 none) (.sl 1 0 body.length none), .val (.int .i64 0)]) [(0, objApp 5 []), (1, objApp 5 body)] 2 := by
  obtain ⟨b0, b1, b2, b3, b4, b5, b6, b7⟩ := byte8_inv hb
  have h20 := ipP_sum ttl proto f0 f1 f2 f3 t0 t1 t2 t3 body
  obtain ⟨s, hs, hs', e⟩ := ipP_form ttl proto f0 f1 f2 f3 t0 t1 t2 t3 body
  rw [e] at h20
  subst h
  rw [e]
  have r := ipGet_g _ _ _ _ _ _ _ _ _ _ _ _ _ _ body (20 + body.length) (by
    have a := lo8_toNat ((20 + (body.length : Int)) / 256)
    have b := lo8_toNat (20 + (body.length : Int))
    omega) rfl (by omega) h20
  rw [lo8_back ttl ht, lo8_back proto hp', u8_back f0 b0, u8_back f1 b1, u8_back f2 b2, u8_back f3 b3, u8_back t0 b4, u8_back t1 b5, u8_back t2 b6, u8_back t3 b7] at r
  exact r

set_option maxHeartbeats 4000000 in
set_option maxRecDepth 10000 in
theorem rPut_p (ttl proto f0 f1 f2 f3 t0 t1 t2 t3 : Int) (body : List UInt8) (ht : 0 ≤ ttl ∧ ttl ≤ 255) (hp' : 0 ≤ proto ∧ proto ≤ 255) (hb : byteP [f0, f1, f2, f3, t0, t1, t2, t3]) (hl : body.length ≤ 1480) :
    ACall Tryz.prog 78 [pkA 0 0 0 0 ttl proto f0 f1 f2 f3 t0 t1 t2 t3 (.bytes []) (.bytes body)] [] 0
      (.tup [.sl 0 0 (20 + body.length) none, .val (.int .i64 0)]) [(0, objApp 5 (ipP ttl proto f0 f1 f2 f3 t0 t1 t2 t3 body))] 1 := by
  obtain ⟨b0, b1, b2, b3, b4, b5, b6, b7⟩ := byte8_inv hb
  obtain ⟨s, hs, hs', e⟩ := ipP_form ttl proto f0 f1 f2 f3 t0 t1 t2 t3 body
  rw [e]
  have e1 : IntKind.wrap IntKind.i64 ((20 : Int) + (body.length : Int)) = 20 + (body.length : Int) := w64 _ (by omega)
  simp only [u8o] at hs' ⊢
  have h := (outS_ok kSS_ok (rPut_ok ttl proto f0 f1 f2 f3 t0 t1 t2 t3 body) (by
    repeat' (first | exact allNil | refine allCons ?_ ?_ | (with_reducible refine allRp _ ?_ ?_))
    all_goals ((try simp only [wu8, fd256, lo8_raw, e1, ← hs']) <;> (first | (intros; with_reducible assumption) | exact True.intro | (with_reducible rfl) | (with_reducible assumption) | omega | (exact ⟨True.intro, by omega⟩) | (exact ⟨by omega, by omega⟩) | (exact ⟨by omega, by omega, by omega⟩) | (exact ⟨by omega, by omega, memA4 b0 b1 b2 b3⟩) | (exact ⟨by omega, by omega, memA4 b4 b5 b6 b7⟩) | (exact memA2 (byte_w _) (byte_w _)) | (exact memA2 byte_0 byte_0) | (exact memA4 (byte_w _) (byte_w _) byte_0 byte_0) | (exact byte_w _) | (exact decide_eq_false (by omega)) | (exact decide_eq_true (by omega)) | (with_reducible exact congrArg (fun z => AV.val (Value.int IntKind.i64 z)) (by omega)) | (with_reducible exact congrArg (fun z => AV.val (Value.int IntKind.i64 z)) (by rw [w64 _ (by omega)]; omega)) | (simp [wu8, isB]; done) | (simp [wu8, isB]; omega))))).1
  simp only [wu8, fd256, lo8_raw, e1, ← hs'] at h
  refine h.renew [224] (by decide) (by decide) (by decide) (by simp [AV.ren, renL, renX]) (fun m x hm => ?_)
  simp only [hp] at hm
  split at hm
  · rename_i e; subst e; injection hm with hm; subst hm; simp [hp, renX, AObj.ren, objApp]
  · cases hm

set_option maxHeartbeats 4000000 in
set_option maxRecDepth 10000 in
theorem ipPut_p (ttl proto f0 f1 f2 f3 t0 t1 t2 t3 : Int) (body : List UInt8) (ht : 0 ≤ ttl ∧ ttl ≤ 255) (hp' : 0 ≤ proto ∧ proto ≤ 255) (hb : byteP [f0, f1, f2, f3, t0, t1, t2, t3]) (hl : body.length ≤ 1480) :
    ACall Tryz.prog 234 [pkA 0 0 0 0 ttl proto f0 f1 f2 f3 t0 t1 t2 t3 (.bytes []) (.bytes body)] [] 0
      (.tup [.sl 0 0 (20 + body.length) none, .val (.int .i64 0)]) [(0, objApp 5 (ipP ttl proto f0 f1 f2 f3 t0 t1 t2 t3 body))] 1 := by
  obtain ⟨b0, b1, b2, b3, b4, b5, b6, b7⟩ := byte8_inv hb
  obtain ⟨s, hs, hs', e⟩ := ipP_form ttl proto f0 f1 f2 f3 t0 t1 t2 t3 body
  rw [e]
  have e1 : IntKind.wrap IntKind.i64 ((20 : Int) + (body.length : Int)) = 20 + (body.length : Int) := w64 _ (by omega)
  simp only [u8o] at hs' ⊢
  have h := (outS_ok kSS_ok (ipPut_ok ttl proto f0 f1 f2 f3 t0 t1 t2 t3 body) (by
    repeat' (first | exact allNil | refine allCons ?_ ?_ | (with_reducible refine allRp _ ?_ ?_))
    all_goals ((try simp only [wu8, fd256, lo8_raw, e1, ← hs']) <;> (first | (intros; with_reducible assumption) | exact True.intro | (with_reducible rfl) | (with_reducible assumption) | omega | (exact ⟨True.intro, by omega⟩) | (exact ⟨by omega, by omega⟩) | (exact ⟨by omega, by omega, by omega⟩) | (exact ⟨by omega, by omega, memA4 b0 b1 b2 b3⟩) | (exact ⟨by omega, by omega, memA4 b4 b5 b6 b7⟩) | (exact memA2 (byte_w _) (byte_w _)) | (exact memA2 byte_0 byte_0) | (exact memA4 (byte_w _) (byte_w _) byte_0 byte_0) | (exact byte_w _) | (exact decide_eq_false (by omega)) | (exact decide_eq_true (by omega)) | (with_reducible exact congrArg (fun z => AV.val (Value.int IntKind.i64 z)) (by omega)) | (with_reducible exact congrArg (fun z => AV.val (Value.int IntKind.i64 z)) (by rw [w64 _ (by omega)]; omega)) | (simp [wu8, isB]; done) | (simp [wu8, isB]; omega))))).1
  simp only [wu8, fd256, lo8_raw, e1, ← hs'] at h
  refine h.renew [224] (by decide) (by decide) (by decide) (by simp [AV.ren, renL, renX]) (fun m x hm => ?_)
  simp only [hp] at hm
  split at hm
  · rename_i e; subst e; injection hm with hm; subst hm; simp [hp, renX, AObj.ren, objApp]
  · cases hm
end Go.Proofs.YtfofhpkafhpicaaGreatDoor

/- A packet's time is made less, reckoned. (Printed by wip/sym/pksym.py.) -/
namespace Go.Proofs.YtfofhpkafhpicaaGreatDoor
open Go.RowKit
set_option linter.unusedVariables false
set_option linter.unusedSimpArgs false

set_option maxRecDepth 100000 in
theorem ipHop_ok (n1 : UInt8) (n0 : UInt8) (c8 : UInt8) (c9 : UInt8) (s1 : UInt8) (s0 : UInt8) (gf0 : UInt8) (gf1 : UInt8) (gf2 : UInt8) (gf3 : UInt8) (gt0 : UInt8) (gt1 : UInt8) (gt2 : UInt8) (gt3 : UInt8) (rest : List UInt8) (k : Nat) (s : Int) : outT kSS [(380, { op := [(8, 14, .keep), (1, 1, Hn.as (Co2.tup [Co1.c (Co0.eq (AV.val (Value.int IntKind.i64 (20 : Int)))), Co1.c (Co0.eq (AV.val (Value.int IntKind.i64 (↑k : Int)))), Co1.c Co0.keep])), (6, 3, Hn.as (Co2.c (Co1.c (Co0.bytes ((69 : UInt8) :: (0 : UInt8) :: n1 :: n0 :: (0 : UInt8) :: (0 : UInt8) :: (0 : UInt8) :: (0 : UInt8) :: c8 :: c9 :: s1 :: s0 :: gf0 :: gf1 :: gf2 :: gf3 :: gt0 :: gt1 :: gt2 :: gt3 :: rest))))), (8, 15, Hn.as (Co2.c (Co1.c (Co0.eq (AV.val (Value.int IntKind.i64 s))))))], br := [(21, false)], ob := [(6, 3), (6, 4), (7, 1), (7, 4), (7, 5), (8, 14), (9, 7), (9, 8), (9, 9), (9, 10)] }),
   (290, { br := [(39, false), (45, false), (49, false)] })] Tryz.prog 380 [AV.bytes ((69 : UInt8) :: (0 : UInt8) :: n1 :: n0 :: (0 : UInt8) :: (0 : UInt8) :: (0 : UInt8) :: (0 : UInt8) :: c8 :: c9 :: s1 :: s0 :: gf0 :: gf1 :: gf2 :: gf3 :: gt0 :: gt1 :: gt2 :: gt3 :: rest)] [] 0 =
   some (AV.tup [AV.sl 80 0 (0 + List.length ((69 : UInt8) :: (0 : UInt8) :: n1 :: n0 :: (0 : UInt8) :: (0 : UInt8) :: (0 : UInt8) :: (0 : UInt8) :: c8 :: c9 :: s1 :: s0 :: gf0 :: gf1 :: gf2 :: gf3 :: gt0 :: gt1 :: gt2 :: gt3 :: rest)) none, AV.val (Value.int IntKind.i64 (0 : Int))], [(80, { t := 5, sz := 1, exact := false, fz := false, body := Body.bytes ((69 : UInt8) :: (0 : UInt8) :: n1 :: n0 :: (0 : UInt8) :: (0 : UInt8) :: (0 : UInt8) :: (0 : UInt8) :: UInt8.ofNat (Int.toNat (IntKind.wrap IntKind.u8 ((↑(UInt8.toNat c8) : Int) - (1 : Int)))) :: c9 :: UInt8.ofNat (Int.toNat (IntKind.wrap IntKind.u8 (Int.fdiv s (256 : Int)))) :: UInt8.ofNat (Int.toNat (IntKind.wrap IntKind.u8 s)) :: gf0 :: gf1 :: gf2 :: gf3 :: gt0 :: gt1 :: gt2 :: gt3 :: rest) })], 208,
   (True) ::
   (20 ≤ 100000000) ::
   ((!ofL [(69 : UInt8), (0 : UInt8), n1, n0, (0 : UInt8), (0 : UInt8), (0 : UInt8), (0 : UInt8), c8, c9, s1, s0, gf0, gf1, gf2, gf3, gt0, gt1, gt2, gt3] == 0) = false) ::
   (decide (bits BinOp.or IntKind.i64 (IntKind.wrap IntKind.i64 (IntKind.wrap IntKind.i64 (↑(UInt8.toNat n1) : Int) * (256 : Int))) (IntKind.wrap IntKind.i64 (↑(UInt8.toNat n0) : Int)) < (20 : Int)) = false) ::
   (decide (bits BinOp.or IntKind.i64 (IntKind.wrap IntKind.i64 (IntKind.wrap IntKind.i64 (↑(UInt8.toNat n1) : Int) * (256 : Int))) (IntKind.wrap IntKind.i64 (↑(UInt8.toNat n0) : Int)) > (↑(List.length ((69 : UInt8) :: (0 : UInt8) :: n1 :: n0 :: (0 : UInt8) :: (0 : UInt8) :: (0 : UInt8) :: (0 : UInt8) :: c8 :: c9 :: s1 :: s0 :: gf0 :: gf1 :: gf2 :: gf3 :: gt0 :: gt1 :: gt2 :: gt3 :: rest)) : Int)) = false) ::
   (AV.val (Value.int IntKind.i64 (20 : Int)) = AV.val (Value.int IntKind.i64 (20 : Int))) ::
   (AV.val (Value.int IntKind.i64 (bits BinOp.or IntKind.i64 (IntKind.wrap IntKind.i64 (IntKind.wrap IntKind.i64 (↑(UInt8.toNat n1) : Int) * (256 : Int))) (IntKind.wrap IntKind.i64 (↑(UInt8.toNat n0) : Int)))) = AV.val (Value.int IntKind.i64 (↑k : Int))) ::
   (decide ((↑(UInt8.toNat c8) : Int) ≤ (1 : Int)) = false) ::
   ((0 : Int) ≤ (0 : Int)) ::
   ((0 : Int) ≤ (↑k : Int)) ::
   (0 ≤ k ∧ k ≤ List.length ((69 : UInt8) :: (0 : UInt8) :: n1 :: n0 :: (0 : UInt8) :: (0 : UInt8) :: (0 : UInt8) :: (0 : UInt8) :: c8 :: c9 :: s1 :: s0 :: gf0 :: gf1 :: gf2 :: gf3 :: gt0 :: gt1 :: gt2 :: gt3 :: rest)) ::
   (True) ::
   (List.take k ((69 : UInt8) :: (0 : UInt8) :: n1 :: n0 :: (0 : UInt8) :: (0 : UInt8) :: (0 : UInt8) :: (0 : UInt8) :: c8 :: c9 :: s1 :: s0 :: gf0 :: gf1 :: gf2 :: gf3 :: gt0 :: gt1 :: gt2 :: gt3 :: rest) = (69 : UInt8) :: (0 : UInt8) :: n1 :: n0 :: (0 : UInt8) :: (0 : UInt8) :: (0 : UInt8) :: (0 : UInt8) :: c8 :: c9 :: s1 :: s0 :: gf0 :: gf1 :: gf2 :: gf3 :: gt0 :: gt1 :: gt2 :: gt3 :: rest) ::
   (True) ::
   (0 = 0 ∧ 0 + List.length ((69 : UInt8) :: (0 : UInt8) :: n1 :: n0 :: (0 : UInt8) :: (0 : UInt8) :: (0 : UInt8) :: (0 : UInt8) :: c8 :: c9 :: s1 :: s0 :: gf0 :: gf1 :: gf2 :: gf3 :: gt0 :: gt1 :: gt2 :: gt3 :: rest) ≤ 1000000000) ::
   rp 2 ((0 : Int) ≤ (8 : Int) ∧ (8 : Int) < (↑(0 + List.length ((69 : UInt8) :: (0 : UInt8) :: n1 :: n0 :: (0 : UInt8) :: (0 : UInt8) :: (0 : UInt8) :: (0 : UInt8) :: c8 :: c9 :: s1 :: s0 :: gf0 :: gf1 :: gf2 :: gf3 :: gt0 :: gt1 :: gt2 :: gt3 :: rest)) : Int)) (
   (8 < List.length ((69 : UInt8) :: (0 : UInt8) :: n1 :: n0 :: (0 : UInt8) :: (0 : UInt8) :: (0 : UInt8) :: (0 : UInt8) :: c8 :: c9 :: s1 :: s0 :: gf0 :: gf1 :: gf2 :: gf3 :: gt0 :: gt1 :: gt2 :: gt3 :: rest)) ::
   (isByteAV (AV.val (Value.int IntKind.u8 (IntKind.wrap IntKind.u8 ((↑(UInt8.toNat c8) : Int) - (1 : Int)))))) ::
   (SameO (some { t := 5, sz := 1, exact := false, fz := false, body := Body.bytes ((69 : UInt8) :: (0 : UInt8) :: n1 :: n0 :: (0 : UInt8) :: (0 : UInt8) :: (0 : UInt8) :: (0 : UInt8) :: UInt8.ofNat (Int.toNat (IntKind.wrap IntKind.u8 ((↑(UInt8.toNat c8) : Int) - (1 : Int)))) :: c9 :: s1 :: s0 :: gf0 :: gf1 :: gf2 :: gf3 :: gt0 :: gt1 :: gt2 :: gt3 :: rest) }) { t := 5, sz := 1, exact := false, fz := false, body := Body.bytes ((69 : UInt8) :: (0 : UInt8) :: n1 :: n0 :: (0 : UInt8) :: (0 : UInt8) :: (0 : UInt8) :: (0 : UInt8) :: UInt8.ofNat (Int.toNat (IntKind.wrap IntKind.u8 ((↑(UInt8.toNat c8) : Int) - (1 : Int)))) :: c9 :: s1 :: s0 :: gf0 :: gf1 :: gf2 :: gf3 :: gt0 :: gt1 :: gt2 :: gt3 :: rest) }) ::
   ((if true = true then if 46 = 46 then AV.val (Value.int IntKind.i64 (IntKind.wrap IntKind.i64 ((65535 : Int) - IntKind.wrap IntKind.i64 (bits BinOp.and IntKind.i64 (IntKind.wrap IntKind.i64 (bits BinOp.and IntKind.i64 (IntKind.wrap IntKind.i64 (bits BinOp.and IntKind.i64 (IntKind.wrap IntKind.i64 (bits BinOp.and IntKind.i64 (IntKind.wrap IntKind.i64 ((65535 : Int) - bits BinOp.and IntKind.i64 (bits BinOp.or IntKind.i64 (IntKind.wrap IntKind.i64 (IntKind.wrap IntKind.i64 (↑(UInt8.toNat s1) : Int) * (256 : Int))) (IntKind.wrap IntKind.i64 (↑(UInt8.toNat s0) : Int))) (65535 : Int))) (65535 : Int) + bits BinOp.and IntKind.i64 (IntKind.wrap IntKind.i64 ((65535 : Int) - bits BinOp.or IntKind.i64 (IntKind.wrap IntKind.i64 (IntKind.wrap IntKind.i64 (↑(UInt8.toNat c8) : Int) * (256 : Int))) (IntKind.wrap IntKind.i64 (↑(UInt8.toNat c9) : Int)))) (65535 : Int))) (65535 : Int) + Int.fdiv (IntKind.wrap IntKind.i64 (bits BinOp.and IntKind.i64 (IntKind.wrap IntKind.i64 ((65535 : Int) - bits BinOp.and IntKind.i64 (bits BinOp.or IntKind.i64 (IntKind.wrap IntKind.i64 (IntKind.wrap IntKind.i64 (↑(UInt8.toNat s1) : Int) * (256 : Int))) (IntKind.wrap IntKind.i64 (↑(UInt8.toNat s0) : Int))) (65535 : Int))) (65535 : Int) + bits BinOp.and IntKind.i64 (IntKind.wrap IntKind.i64 ((65535 : Int) - bits BinOp.or IntKind.i64 (IntKind.wrap IntKind.i64 (IntKind.wrap IntKind.i64 (↑(UInt8.toNat c8) : Int) * (256 : Int))) (IntKind.wrap IntKind.i64 (↑(UInt8.toNat c9) : Int)))) (65535 : Int))) (65536 : Int))) (65535 : Int) + bits BinOp.and IntKind.i64 (bits BinOp.or IntKind.i64 (IntKind.wrap IntKind.i64 (IntKind.wrap IntKind.i64 (↑(UInt8.toNat (UInt8.ofNat (Int.toNat (IntKind.wrap IntKind.u8 ((↑(UInt8.toNat c8) : Int) - (1 : Int)))))) : Int) * (256 : Int))) (IntKind.wrap IntKind.i64 (↑(UInt8.toNat c9) : Int))) (65535 : Int))) (65535 : Int) + Int.fdiv (IntKind.wrap IntKind.i64 (bits BinOp.and IntKind.i64 (IntKind.wrap IntKind.i64 (bits BinOp.and IntKind.i64 (IntKind.wrap IntKind.i64 (bits BinOp.and IntKind.i64 (IntKind.wrap IntKind.i64 ((65535 : Int) - bits BinOp.and IntKind.i64 (bits BinOp.or IntKind.i64 (IntKind.wrap IntKind.i64 (IntKind.wrap IntKind.i64 (↑(UInt8.toNat s1) : Int) * (256 : Int))) (IntKind.wrap IntKind.i64 (↑(UInt8.toNat s0) : Int))) (65535 : Int))) (65535 : Int) + bits BinOp.and IntKind.i64 (IntKind.wrap IntKind.i64 ((65535 : Int) - bits BinOp.or IntKind.i64 (IntKind.wrap IntKind.i64 (IntKind.wrap IntKind.i64 (↑(UInt8.toNat c8) : Int) * (256 : Int))) (IntKind.wrap IntKind.i64 (↑(UInt8.toNat c9) : Int)))) (65535 : Int))) (65535 : Int) + Int.fdiv (IntKind.wrap IntKind.i64 (bits BinOp.and IntKind.i64 (IntKind.wrap IntKind.i64 ((65535 : Int) - bits BinOp.and IntKind.i64 (bits BinOp.or IntKind.i64 (IntKind.wrap IntKind.i64 (IntKind.wrap IntKind.i64 (↑(UInt8.toNat s1) : Int) * (256 : Int))) (IntKind.wrap IntKind.i64 (↑(UInt8.toNat s0) : Int))) (65535 : Int))) (65535 : Int) + bits BinOp.and IntKind.i64 (IntKind.wrap IntKind.i64 ((65535 : Int) - bits BinOp.or IntKind.i64 (IntKind.wrap IntKind.i64 (IntKind.wrap IntKind.i64 (↑(UInt8.toNat c8) : Int) * (256 : Int))) (IntKind.wrap IntKind.i64 (↑(UInt8.toNat c9) : Int)))) (65535 : Int))) (65536 : Int))) (65535 : Int) + bits BinOp.and IntKind.i64 (bits BinOp.or IntKind.i64 (IntKind.wrap IntKind.i64 (IntKind.wrap IntKind.i64 (↑(UInt8.toNat (UInt8.ofNat (Int.toNat (IntKind.wrap IntKind.u8 ((↑(UInt8.toNat c8) : Int) - (1 : Int)))))) : Int) * (256 : Int))) (IntKind.wrap IntKind.i64 (↑(UInt8.toNat c9) : Int))) (65535 : Int))) (65536 : Int))))) else AV.any else AV.any) = AV.val (Value.int IntKind.i64 s)) ::
   ((0 : Int) ≤ (10 : Int) ∧ (10 : Int) < (↑(0 + List.length ((69 : UInt8) :: (0 : UInt8) :: n1 :: n0 :: (0 : UInt8) :: (0 : UInt8) :: (0 : UInt8) :: (0 : UInt8) :: c8 :: c9 :: s1 :: s0 :: gf0 :: gf1 :: gf2 :: gf3 :: gt0 :: gt1 :: gt2 :: gt3 :: rest)) : Int)) ::
   (10 < List.length ((69 : UInt8) :: (0 : UInt8) :: n1 :: n0 :: (0 : UInt8) :: (0 : UInt8) :: (0 : UInt8) :: (0 : UInt8) :: UInt8.ofNat (Int.toNat (IntKind.wrap IntKind.u8 ((↑(UInt8.toNat c8) : Int) - (1 : Int)))) :: c9 :: s1 :: s0 :: gf0 :: gf1 :: gf2 :: gf3 :: gt0 :: gt1 :: gt2 :: gt3 :: rest)) ::
   (isByteAV (AV.val (Value.int IntKind.u8 (IntKind.wrap IntKind.u8 (Int.fdiv s (256 : Int)))))) ::
   ((0 : Int) ≤ (11 : Int) ∧ (11 : Int) < (↑(0 + List.length ((69 : UInt8) :: (0 : UInt8) :: n1 :: n0 :: (0 : UInt8) :: (0 : UInt8) :: (0 : UInt8) :: (0 : UInt8) :: c8 :: c9 :: s1 :: s0 :: gf0 :: gf1 :: gf2 :: gf3 :: gt0 :: gt1 :: gt2 :: gt3 :: rest)) : Int)) ::
   (11 < List.length ((69 : UInt8) :: (0 : UInt8) :: n1 :: n0 :: (0 : UInt8) :: (0 : UInt8) :: (0 : UInt8) :: (0 : UInt8) :: UInt8.ofNat (Int.toNat (IntKind.wrap IntKind.u8 ((↑(UInt8.toNat c8) : Int) - (1 : Int)))) :: c9 :: UInt8.ofNat (Int.toNat (IntKind.wrap IntKind.u8 (Int.fdiv s (256 : Int)))) :: s0 :: gf0 :: gf1 :: gf2 :: gf3 :: gt0 :: gt1 :: gt2 :: gt3 :: rest)) ::
   (isByteAV (AV.val (Value.int IntKind.u8 (IntKind.wrap IntKind.u8 s)))) :: [])) := by kernel_rfl
end Go.Proofs.YtfofhpkafhpicaaGreatDoor

/- A packet's time is made less: contract. -/
namespace Go.Proofs.YtfofhpkafhpicaaGreatDoor
open Go.RowKit
set_option linter.unusedSimpArgs false
set_option linter.unusedVariables false

set_option maxHeartbeats 4000000 in
set_option maxRecDepth 10000 in
theorem ipHop_g (n1 n0 c8 c9 s1 s0 g0 g1 g2 g3 h0 h1 h2 h3 : UInt8) (rest : List UInt8) (k s : Nat) (hk : n1.toNat * 256 + n0.toNat = k) (hr : k = 20 + rest.length) (hl : rest.length ≤ 2000) (hs : ofL [69, 0, n1, n0, 0, 0, 0, 0, c8, c9, s1, s0, g0, g1, g2, g3, h0, h1, h2, h3] = 0) (h8 : 2 ≤ c8.toNat) (hs' : s = turnN (s1.toNat * 256 + s0.toNat) (c8.toNat * 256 + c9.toNat) ((UInt8.ofNat (Int.toNat (IntKind.wrap IntKind.u8 (((c8.toNat : Nat) : Int) - 1)))).toNat * 256 + c9.toNat)) :
    ACall Tryz.prog 380 [.bytes (69 :: 0 :: n1 :: n0 :: 0 :: 0 :: 0 :: 0 :: c8 :: c9 :: s1 :: s0 :: g0 :: g1 :: g2 :: g3 :: h0 :: h1 :: h2 :: h3 :: rest)] [] 0 (.tup [.sl 0 0 (20 + rest.length) none, .val (.int .i64 0)]) [(0, objApp 5 (69 :: 0 :: n1 :: n0 :: 0 :: 0 :: 0 :: 0 :: UInt8.ofNat (Int.toNat (IntKind.wrap IntKind.u8 (((c8.toNat : Nat) : Int) - 1))) :: c9 :: lo8 ((s : Int) / 256) :: lo8 (s : Int) :: g0 :: g1 :: g2 :: g3 :: h0 :: h1 :: h2 :: h3 :: rest))] 1 := by
  have hlen : (69 :: 0 :: n1 :: n0 :: 0 :: 0 :: 0 :: 0 :: c8 :: c9 :: s1 :: s0 :: g0 :: g1 :: g2 :: g3 :: h0 :: h1 :: h2 :: h3 :: rest).length = k := by simp only [List.length_cons]; omega
  have tk : List.take k (69 :: 0 :: n1 :: n0 :: 0 :: 0 :: 0 :: 0 :: c8 :: c9 :: s1 :: s0 :: g0 :: g1 :: g2 :: g3 :: h0 :: h1 :: h2 :: h3 :: rest) = 69 :: 0 :: n1 :: n0 :: 0 :: 0 :: 0 :: 0 :: c8 :: c9 :: s1 :: s0 :: g0 :: g1 :: g2 :: g3 :: h0 :: h1 :: h2 :: h3 :: rest := tk_all hlen
  have hs2 : (!(ofL [69, 0, n1, n0, 0, 0, 0, 0, c8, c9, s1, s0, g0, g1, g2, g3, h0, h1, h2, h3] == 0)) = false := not_beq0 hs
  have i8 : ∀ x : UInt8, 8 < List.length (69 :: 0 :: n1 :: n0 :: 0 :: 0 :: 0 :: 0 :: x :: c9 :: s1 :: s0 :: g0 :: g1 :: g2 :: g3 :: h0 :: h1 :: h2 :: h3 :: rest) := fun x => by simp only [List.length_cons]; omega
  have i10 : ∀ x : UInt8, 10 < List.length (69 :: 0 :: n1 :: n0 :: 0 :: 0 :: 0 :: 0 :: x :: c9 :: s1 :: s0 :: g0 :: g1 :: g2 :: g3 :: h0 :: h1 :: h2 :: h3 :: rest) := fun x => by simp only [List.length_cons]; omega
  have i11 : ∀ x y : UInt8, 11 < List.length (69 :: 0 :: n1 :: n0 :: 0 :: 0 :: 0 :: 0 :: x :: c9 :: y :: s0 :: g0 :: g1 :: g2 :: g3 :: h0 :: h1 :: h2 :: h3 :: rest) := fun x y => by simp only [List.length_cons]; omega
  have lt1 := s1.toNat_lt
  have lt2 := s0.toNat_lt
  have lt3 := c8.toNat_lt
  have lt4 := c9.toNat_lt
  have lt5 := (UInt8.ofNat (Int.toNat (IntKind.wrap IntKind.u8 (((c8.toNat : Nat) : Int) - 1)))).toNat_lt
  have h := (outT_ok kSS_ok (ipHop_ok n1 n0 c8 c9 s1 s0 g0 g1 g2 g3 h0 h1 h2 h3 rest k (s : Int)) (by
    repeat' (first | exact allNil | refine allCons ?_ ?_ | (with_reducible refine allRp _ ?_ ?_))
    all_goals (first
      | (rw [if_pos rfl, if_pos rfl]
         simp only [pair_raw]
         rw [turn_raw ((s1.toNat * 256 + s0.toNat : Nat) : Int) ((c8.toNat * 256 + c9.toNat : Nat) : Int) (((UInt8.ofNat (Int.toNat (IntKind.wrap IntKind.u8 (((c8.toNat : Nat) : Int) - 1)))).toNat * 256 + c9.toNat : Nat) : Int) (s1.toNat * 256 + s0.toNat) (c8.toNat * 256 + c9.toNat) ((UInt8.ofNat (Int.toNat (IntKind.wrap IntKind.u8 (((c8.toNat : Nat) : Int) - 1)))).toNat * 256 + c9.toNat) (by omega) (by omega) (by omega) (by omega) rfl rfl _ _ rfl rfl, hs'])
      | (exact i8 _) | (with_reducible exact (sameO_iff _ _).2 rfl) | (exact i10 _) | (exact i11 _ _)
      | ((try simp only [pair_raw, hlen, hk]) <;> (first | exact True.intro | (with_reducible rfl) | (with_reducible assumption) | omega | (exact ⟨True.intro, by omega⟩) | (exact ⟨by omega, by omega⟩) | (exact ⟨by omega, by omega, by omega⟩) | (exact ⟨by omega, by omega, memA4 b0 b1 b2 b3⟩) | (exact ⟨by omega, by omega, memA4 b4 b5 b6 b7⟩) | (exact memA2 (byte_w _) (byte_w _)) | (exact memA2 byte_0 byte_0) | (exact memA4 (byte_w _) (byte_w _) byte_0 byte_0) | (exact byte_w _) | (exact decide_eq_false (by omega)) | (exact decide_eq_true (by omega)) | (with_reducible exact congrArg (fun z => AV.val (Value.int IntKind.i64 z)) (by omega))  | (with_reducible exact congrArg (fun z => AV.val (Value.int IntKind.i64 z)) (by rw [w64 _ (by omega)]; omega))))))).1
  simp only [hlen, Nat.zero_add, hr] at h
  simp only [fd256] at h
  simp only [wu8 ((s : Int) / 256), wu8 (s : Int), lo8_raw] at h
  refine h.renew [80] (by decide) (by decide) (by decide) (by simp [AV.ren, renL, renX]) (fun m x hm => ?_)
  simp only [hp] at hm
  split at hm
  · rename_i e; subst e; injection hm with hm; subst hm; simp [hp, renX, AObj.ren, objApp]
  · cases hm
theorem ipHop_c (ttl proto f0 f1 f2 f3 t0 t1 t2 t3 : Int) (body ys : List UInt8) (h : ys = ipP ttl proto f0 f1 f2 f3 t0 t1 t2 t3 body) (ht : 2 ≤ ttl ∧ ttl ≤ 255) (hp' : 0 < proto ∧ proto ≤ 255) (hb : byteP [f0, f1, f2, f3, t0, t1, t2, t3]) (hl : body.length ≤ 1480) :
    ACall Tryz.prog 380 [.bytes ys] [] 0 (.tup [.sl 0 0 (20 + body.length) none, .val (.int .i64 0)]) [(0, objApp 5 (ipP (ttl - 1) proto f0 f1 f2 f3 t0 t1 t2 t3 body))] 1 := by
  have h20 := ipP_sum ttl proto f0 f1 f2 f3 t0 t1 t2 t3 body
  obtain ⟨s, hs, hs', e⟩ := ipP_form ttl proto f0 f1 f2 f3 t0 t1 t2 t3 body
  rw [e] at h20
  have c8 : ((lo8 ttl).toNat : Int) = ttl := lo8_back ttl (by omega)
  have d8 : UInt8.ofNat (Int.toNat (IntKind.wrap IntKind.u8 ((((lo8 ttl).toNat : Nat) : Int) - 1))) = lo8 (ttl - 1) := by rw [c8, wu8]; rfl
  obtain ⟨s', q⟩ : ∃ s', s' = turnN s ((lo8 ttl).toNat * 256 + (lo8 proto).toNat) ((lo8 (ttl - 1)).toNat * 256 + (lo8 proto).toNat) := ⟨_, rfl⟩
  have hop := ipP_hop ttl proto f0 f1 f2 f3 t0 t1 t2 t3 body hp' ht s s' (by rw [hs']; rfl) q
  have r := ipHop_g _ _ _ _ _ _ _ _ _ _ _ _ _ _ body (20 + body.length) s' (by
    have a := lo8_toNat ((20 + (body.length : Int)) / 256)
    have b := lo8_toNat (20 + (body.length : Int))
    omega) rfl (by omega) h20 (by omega) (by rw [d8, put_sum s hs]; exact q)
  rw [d8] at r
  subst h
  rw [e]
  have c69 : lo8 (64 + (20 + ((List.length ([] : List UInt8) : Nat) : Int)) / 4) = 69 := by decide
  have c0 : lo8 0 = 0 := by decide
  have c0' : lo8 (0 / 256) = 0 := by decide
  have cx : lo8 ((0 * 8192 + 0) / 256) = 0 := by decide
  have cx' : lo8 (0 * 8192 + 0) = 0 := by decide
  unfold ipH at hop
  simp only [c69, c0, c0', cx, cx', List.cons_append, List.nil_append] at hop
  rw [← hop]
  exact r
end Go.Proofs.YtfofhpkafhpicaaGreatDoor
