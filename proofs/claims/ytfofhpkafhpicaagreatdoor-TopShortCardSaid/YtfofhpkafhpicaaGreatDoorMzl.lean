/- Several texts in one: ZlRun, Zl. -/
import Derived.Test.YtfofhpkafhpicaaGreatDoorMzk
import Derived.Test.YtfofhpkafhpicaaGreatDoorRp

/- What the world learns of a frame within that bears a datagram, reckoned. (Printed by wip/sym/lrsym.py.) -/
namespace Go.Proofs.YtfofhpkafhpicaaGreatDoor
open Go.RowKit
set_option linter.unusedVariables false
set_option linter.unusedSimpArgs false

set_option maxRecDepth 100000 in
theorem learn_n (m0 : UInt8) (m1 : UInt8) (m2 : UInt8) (m3 : UInt8) (m4 : UInt8) (m5 : UInt8) (m6 : UInt8) (m7 : UInt8) (m8 : UInt8) (m9 : UInt8) (m10 : UInt8) (m11 : UInt8) (ys : List UInt8) (ttl : Int) (f0 : Int) (f1 : Int) (f2 : Int) (f3 : Int) (t0 : Int) (t1 : Int) (t2 : Int) (t3 : Int) (fr : Int) (tp : Int) : outT (kPA [(105, Sp.ip ttl (17 : Int) f0 f1 f2 f3 t0 t1 t2 t3 (udpP f0 f1 f2 f3 t0 t1 t2 t3 fr tp [(100 : UInt8), (97 : UInt8), (116 : UInt8), (97 : UInt8)])), (117, Sp.ud fr tp [(100 : UInt8), (97 : UInt8), (116 : UInt8), (97 : UInt8)])]) [(27, { ob := [(1, 2)] }),
   (85, { br := [(6, false)], ob := [(5, 3), (5, 8)] }),
   (21, { br := [(209, false)], ob := [(19, 2), (21, 1)] })] Tryz.prog 21 [AV.any, AV.val (Value.int IntKind.i64 (0 : Int)), AV.bytes (m0 :: m1 :: m2 :: m3 :: m4 :: m5 :: m6 :: m7 :: m8 :: m9 :: m10 :: m11 :: (8 : UInt8) :: (0 : UInt8) :: ys)] [] 0 =
   some (AV.tup [], [], 168,
   (decide ((↑(List.length (m0 :: m1 :: m2 :: m3 :: m4 :: m5 :: m6 :: m7 :: m8 :: m9 :: m10 :: m11 :: (8 : UInt8) :: (0 : UInt8) :: ys)) : Int) > (1514 : Int)) = false) ::
   ((0 : Int) ≤ (6 : Int)) ::
   ((0 : Int) ≤ (↑(List.length (m0 :: m1 :: m2 :: m3 :: m4 :: m5 :: m6 :: m7 :: m8 :: m9 :: m10 :: m11 :: (8 : UInt8) :: (0 : UInt8) :: ys)) : Int)) ::
   (6 ≤ List.length (m0 :: m1 :: m2 :: m3 :: m4 :: m5 :: m6 :: m7 :: m8 :: m9 :: m10 :: m11 :: (8 : UInt8) :: (0 : UInt8) :: ys) ∧ List.length (m0 :: m1 :: m2 :: m3 :: m4 :: m5 :: m6 :: m7 :: m8 :: m9 :: m10 :: m11 :: (8 : UInt8) :: (0 : UInt8) :: ys) ≤ List.length (m0 :: m1 :: m2 :: m3 :: m4 :: m5 :: m6 :: m7 :: m8 :: m9 :: m10 :: m11 :: (8 : UInt8) :: (0 : UInt8) :: ys)) ::
   ((0 : Int) ≤ (14 : Int)) ::
   ((0 : Int) ≤ (↑(List.length (m0 :: m1 :: m2 :: m3 :: m4 :: m5 :: m6 :: m7 :: m8 :: m9 :: m10 :: m11 :: (8 : UInt8) :: (0 : UInt8) :: ys)) : Int)) ::
   (14 ≤ List.length (m0 :: m1 :: m2 :: m3 :: m4 :: m5 :: m6 :: m7 :: m8 :: m9 :: m10 :: m11 :: (8 : UInt8) :: (0 : UInt8) :: ys) ∧ List.length (m0 :: m1 :: m2 :: m3 :: m4 :: m5 :: m6 :: m7 :: m8 :: m9 :: m10 :: m11 :: (8 : UInt8) :: (0 : UInt8) :: ys) ≤ List.length (m0 :: m1 :: m2 :: m3 :: m4 :: m5 :: m6 :: m7 :: m8 :: m9 :: m10 :: m11 :: (8 : UInt8) :: (0 : UInt8) :: ys)) ::
   (True) ::
   (0 = 0 ∧ 0 + List.length (List.drop 14 (List.take (List.length (m0 :: m1 :: m2 :: m3 :: m4 :: m5 :: m6 :: m7 :: m8 :: m9 :: m10 :: m11 :: (8 : UInt8) :: (0 : UInt8) :: ys)) (m0 :: m1 :: m2 :: m3 :: m4 :: m5 :: m6 :: m7 :: m8 :: m9 :: m10 :: m11 :: (8 : UInt8) :: (0 : UInt8) :: ys))) ≤ 1000000000) ::
   (0 + (0 + List.length (List.drop 14 (List.take (List.length (m0 :: m1 :: m2 :: m3 :: m4 :: m5 :: m6 :: m7 :: m8 :: m9 :: m10 :: m11 :: (8 : UInt8) :: (0 : UInt8) :: ys)) (m0 :: m1 :: m2 :: m3 :: m4 :: m5 :: m6 :: m7 :: m8 :: m9 :: m10 :: m11 :: (8 : UInt8) :: (0 : UInt8) :: ys)))) ≤ List.length (List.drop 14 (List.take (List.length (m0 :: m1 :: m2 :: m3 :: m4 :: m5 :: m6 :: m7 :: m8 :: m9 :: m10 :: m11 :: (8 : UInt8) :: (0 : UInt8) :: ys)) (m0 :: m1 :: m2 :: m3 :: m4 :: m5 :: m6 :: m7 :: m8 :: m9 :: m10 :: m11 :: (8 : UInt8) :: (0 : UInt8) :: ys)))) ::
   (List.take (0 + List.length (List.drop 14 (List.take (List.length (m0 :: m1 :: m2 :: m3 :: m4 :: m5 :: m6 :: m7 :: m8 :: m9 :: m10 :: m11 :: (8 : UInt8) :: (0 : UInt8) :: ys)) (m0 :: m1 :: m2 :: m3 :: m4 :: m5 :: m6 :: m7 :: m8 :: m9 :: m10 :: m11 :: (8 : UInt8) :: (0 : UInt8) :: ys)))) (List.drop 14 (List.take (List.length (m0 :: m1 :: m2 :: m3 :: m4 :: m5 :: m6 :: m7 :: m8 :: m9 :: m10 :: m11 :: (8 : UInt8) :: (0 : UInt8) :: ys)) (m0 :: m1 :: m2 :: m3 :: m4 :: m5 :: m6 :: m7 :: m8 :: m9 :: m10 :: m11 :: (8 : UInt8) :: (0 : UInt8) :: ys))) = ipP ttl (17 : Int) f0 f1 f2 f3 t0 t1 t2 t3 (udpP f0 f1 f2 f3 t0 t1 t2 t3 fr tp [(100 : UInt8), (97 : UInt8), (116 : UInt8), (97 : UInt8)])) ::
   (0 + List.length (List.drop 14 (List.take (List.length (m0 :: m1 :: m2 :: m3 :: m4 :: m5 :: m6 :: m7 :: m8 :: m9 :: m10 :: m11 :: (8 : UInt8) :: (0 : UInt8) :: ys)) (m0 :: m1 :: m2 :: m3 :: m4 :: m5 :: m6 :: m7 :: m8 :: m9 :: m10 :: m11 :: (8 : UInt8) :: (0 : UInt8) :: ys))) = 20 + List.length (udpP f0 f1 f2 f3 t0 t1 t2 t3 fr tp [(100 : UInt8), (97 : UInt8), (116 : UInt8), (97 : UInt8)])) ::
   ((0 : Int) ≤ ttl ∧ ttl ≤ (255 : Int)) ::
   ((0 : Int) ≤ (17 : Int) ∧ (17 : Int) ≤ (255 : Int)) ::
   (byteP [f0, f1, f2, f3, t0, t1, t2, t3]) ::
   (List.length (udpP f0 f1 f2 f3 t0 t1 t2 t3 fr tp [(100 : UInt8), (97 : UInt8), (116 : UInt8), (97 : UInt8)]) ≤ 1480) ::
   (0 ≤ 0) ::
   (0 + (0 + List.length (List.drop 14 (List.take (List.length (m0 :: m1 :: m2 :: m3 :: m4 :: m5 :: m6 :: m7 :: m8 :: m9 :: m10 :: m11 :: (8 : UInt8) :: (0 : UInt8) :: ys)) (m0 :: m1 :: m2 :: m3 :: m4 :: m5 :: m6 :: m7 :: m8 :: m9 :: m10 :: m11 :: (8 : UInt8) :: (0 : UInt8) :: ys))) - 20) ≤ List.length (udpP f0 f1 f2 f3 t0 t1 t2 t3 fr tp [(100 : UInt8), (97 : UInt8), (116 : UInt8), (97 : UInt8)])) ::
   (([] : List UInt8) = []) ::
   rp 4 ((0 : Int) = (0 : Int)) (
   ((17 : Int) = (17 : Int)) ::
   (List.take (0 + List.length (List.drop 14 (List.take (List.length (m0 :: m1 :: m2 :: m3 :: m4 :: m5 :: m6 :: m7 :: m8 :: m9 :: m10 :: m11 :: (8 : UInt8) :: (0 : UInt8) :: ys)) (m0 :: m1 :: m2 :: m3 :: m4 :: m5 :: m6 :: m7 :: m8 :: m9 :: m10 :: m11 :: (8 : UInt8) :: (0 : UInt8) :: ys))) - 20) (udpP f0 f1 f2 f3 t0 t1 t2 t3 fr tp [(100 : UInt8), (97 : UInt8), (116 : UInt8), (97 : UInt8)]) = udpP f0 f1 f2 f3 t0 t1 t2 t3 fr tp [(100 : UInt8), (97 : UInt8), (116 : UInt8), (97 : UInt8)]) ::
   (0 + List.length (List.drop 14 (List.take (List.length (m0 :: m1 :: m2 :: m3 :: m4 :: m5 :: m6 :: m7 :: m8 :: m9 :: m10 :: m11 :: (8 : UInt8) :: (0 : UInt8) :: ys)) (m0 :: m1 :: m2 :: m3 :: m4 :: m5 :: m6 :: m7 :: m8 :: m9 :: m10 :: m11 :: (8 : UInt8) :: (0 : UInt8) :: ys))) - 20 = 12) ::
   ((0 : Int) ≤ fr ∧ fr ≤ (65535 : Int)) ::
   ((0 : Int) ≤ tp ∧ tp ≤ (65535 : Int)) ::
   (byteP [f0, f1, f2, f3, t0, t1, t2, t3]) ::
   (4 ≤ 1472) ::
   ((tp == (68 : Int)) = false) :: [])) := by kernel_rfl

set_option maxRecDepth 100000 in
theorem learn_68 (m0 : UInt8) (m1 : UInt8) (m2 : UInt8) (m3 : UInt8) (m4 : UInt8) (m5 : UInt8) (m6 : UInt8) (m7 : UInt8) (m8 : UInt8) (m9 : UInt8) (m10 : UInt8) (m11 : UInt8) (ys : List UInt8) (ttl : Int) (f0 : Int) (f1 : Int) (f2 : Int) (f3 : Int) (t0 : Int) (t1 : Int) (t2 : Int) (t3 : Int) (fr : Int) (tp : Int) : outT (kPA [(105, Sp.ip ttl (17 : Int) f0 f1 f2 f3 t0 t1 t2 t3 (udpP f0 f1 f2 f3 t0 t1 t2 t3 fr tp [(100 : UInt8), (97 : UInt8), (116 : UInt8), (97 : UInt8)])), (117, Sp.ud fr tp [(100 : UInt8), (97 : UInt8), (116 : UInt8), (97 : UInt8)])]) [(27, { ob := [(1, 2)] }),
   (90, { br := [(10, true)] }),
   (85, { br := [(6, false)], ob := [(5, 3), (5, 8)] }),
   (21, { br := [(209, true)], ob := [(19, 2), (21, 1)] })] Tryz.prog 21 [AV.any, AV.val (Value.int IntKind.i64 (0 : Int)), AV.bytes (m0 :: m1 :: m2 :: m3 :: m4 :: m5 :: m6 :: m7 :: m8 :: m9 :: m10 :: m11 :: (8 : UInt8) :: (0 : UInt8) :: ys)] [] 0 =
   some (AV.tup [], [], 199,
   (decide ((↑(List.length (m0 :: m1 :: m2 :: m3 :: m4 :: m5 :: m6 :: m7 :: m8 :: m9 :: m10 :: m11 :: (8 : UInt8) :: (0 : UInt8) :: ys)) : Int) > (1514 : Int)) = false) ::
   ((0 : Int) ≤ (6 : Int)) ::
   ((0 : Int) ≤ (↑(List.length (m0 :: m1 :: m2 :: m3 :: m4 :: m5 :: m6 :: m7 :: m8 :: m9 :: m10 :: m11 :: (8 : UInt8) :: (0 : UInt8) :: ys)) : Int)) ::
   (6 ≤ List.length (m0 :: m1 :: m2 :: m3 :: m4 :: m5 :: m6 :: m7 :: m8 :: m9 :: m10 :: m11 :: (8 : UInt8) :: (0 : UInt8) :: ys) ∧ List.length (m0 :: m1 :: m2 :: m3 :: m4 :: m5 :: m6 :: m7 :: m8 :: m9 :: m10 :: m11 :: (8 : UInt8) :: (0 : UInt8) :: ys) ≤ List.length (m0 :: m1 :: m2 :: m3 :: m4 :: m5 :: m6 :: m7 :: m8 :: m9 :: m10 :: m11 :: (8 : UInt8) :: (0 : UInt8) :: ys)) ::
   ((0 : Int) ≤ (14 : Int)) ::
   ((0 : Int) ≤ (↑(List.length (m0 :: m1 :: m2 :: m3 :: m4 :: m5 :: m6 :: m7 :: m8 :: m9 :: m10 :: m11 :: (8 : UInt8) :: (0 : UInt8) :: ys)) : Int)) ::
   (14 ≤ List.length (m0 :: m1 :: m2 :: m3 :: m4 :: m5 :: m6 :: m7 :: m8 :: m9 :: m10 :: m11 :: (8 : UInt8) :: (0 : UInt8) :: ys) ∧ List.length (m0 :: m1 :: m2 :: m3 :: m4 :: m5 :: m6 :: m7 :: m8 :: m9 :: m10 :: m11 :: (8 : UInt8) :: (0 : UInt8) :: ys) ≤ List.length (m0 :: m1 :: m2 :: m3 :: m4 :: m5 :: m6 :: m7 :: m8 :: m9 :: m10 :: m11 :: (8 : UInt8) :: (0 : UInt8) :: ys)) ::
   (True) ::
   (0 = 0 ∧ 0 + List.length (List.drop 14 (List.take (List.length (m0 :: m1 :: m2 :: m3 :: m4 :: m5 :: m6 :: m7 :: m8 :: m9 :: m10 :: m11 :: (8 : UInt8) :: (0 : UInt8) :: ys)) (m0 :: m1 :: m2 :: m3 :: m4 :: m5 :: m6 :: m7 :: m8 :: m9 :: m10 :: m11 :: (8 : UInt8) :: (0 : UInt8) :: ys))) ≤ 1000000000) ::
   (0 + (0 + List.length (List.drop 14 (List.take (List.length (m0 :: m1 :: m2 :: m3 :: m4 :: m5 :: m6 :: m7 :: m8 :: m9 :: m10 :: m11 :: (8 : UInt8) :: (0 : UInt8) :: ys)) (m0 :: m1 :: m2 :: m3 :: m4 :: m5 :: m6 :: m7 :: m8 :: m9 :: m10 :: m11 :: (8 : UInt8) :: (0 : UInt8) :: ys)))) ≤ List.length (List.drop 14 (List.take (List.length (m0 :: m1 :: m2 :: m3 :: m4 :: m5 :: m6 :: m7 :: m8 :: m9 :: m10 :: m11 :: (8 : UInt8) :: (0 : UInt8) :: ys)) (m0 :: m1 :: m2 :: m3 :: m4 :: m5 :: m6 :: m7 :: m8 :: m9 :: m10 :: m11 :: (8 : UInt8) :: (0 : UInt8) :: ys)))) ::
   (List.take (0 + List.length (List.drop 14 (List.take (List.length (m0 :: m1 :: m2 :: m3 :: m4 :: m5 :: m6 :: m7 :: m8 :: m9 :: m10 :: m11 :: (8 : UInt8) :: (0 : UInt8) :: ys)) (m0 :: m1 :: m2 :: m3 :: m4 :: m5 :: m6 :: m7 :: m8 :: m9 :: m10 :: m11 :: (8 : UInt8) :: (0 : UInt8) :: ys)))) (List.drop 14 (List.take (List.length (m0 :: m1 :: m2 :: m3 :: m4 :: m5 :: m6 :: m7 :: m8 :: m9 :: m10 :: m11 :: (8 : UInt8) :: (0 : UInt8) :: ys)) (m0 :: m1 :: m2 :: m3 :: m4 :: m5 :: m6 :: m7 :: m8 :: m9 :: m10 :: m11 :: (8 : UInt8) :: (0 : UInt8) :: ys))) = ipP ttl (17 : Int) f0 f1 f2 f3 t0 t1 t2 t3 (udpP f0 f1 f2 f3 t0 t1 t2 t3 fr tp [(100 : UInt8), (97 : UInt8), (116 : UInt8), (97 : UInt8)])) ::
   (0 + List.length (List.drop 14 (List.take (List.length (m0 :: m1 :: m2 :: m3 :: m4 :: m5 :: m6 :: m7 :: m8 :: m9 :: m10 :: m11 :: (8 : UInt8) :: (0 : UInt8) :: ys)) (m0 :: m1 :: m2 :: m3 :: m4 :: m5 :: m6 :: m7 :: m8 :: m9 :: m10 :: m11 :: (8 : UInt8) :: (0 : UInt8) :: ys))) = 20 + List.length (udpP f0 f1 f2 f3 t0 t1 t2 t3 fr tp [(100 : UInt8), (97 : UInt8), (116 : UInt8), (97 : UInt8)])) ::
   ((0 : Int) ≤ ttl ∧ ttl ≤ (255 : Int)) ::
   ((0 : Int) ≤ (17 : Int) ∧ (17 : Int) ≤ (255 : Int)) ::
   (byteP [f0, f1, f2, f3, t0, t1, t2, t3]) ::
   (List.length (udpP f0 f1 f2 f3 t0 t1 t2 t3 fr tp [(100 : UInt8), (97 : UInt8), (116 : UInt8), (97 : UInt8)]) ≤ 1480) ::
   (0 ≤ 0) ::
   (0 + (0 + List.length (List.drop 14 (List.take (List.length (m0 :: m1 :: m2 :: m3 :: m4 :: m5 :: m6 :: m7 :: m8 :: m9 :: m10 :: m11 :: (8 : UInt8) :: (0 : UInt8) :: ys)) (m0 :: m1 :: m2 :: m3 :: m4 :: m5 :: m6 :: m7 :: m8 :: m9 :: m10 :: m11 :: (8 : UInt8) :: (0 : UInt8) :: ys))) - 20) ≤ List.length (udpP f0 f1 f2 f3 t0 t1 t2 t3 fr tp [(100 : UInt8), (97 : UInt8), (116 : UInt8), (97 : UInt8)])) ::
   (([] : List UInt8) = []) ::
   rp 4 ((0 : Int) = (0 : Int)) (
   ((17 : Int) = (17 : Int)) ::
   (List.take (0 + List.length (List.drop 14 (List.take (List.length (m0 :: m1 :: m2 :: m3 :: m4 :: m5 :: m6 :: m7 :: m8 :: m9 :: m10 :: m11 :: (8 : UInt8) :: (0 : UInt8) :: ys)) (m0 :: m1 :: m2 :: m3 :: m4 :: m5 :: m6 :: m7 :: m8 :: m9 :: m10 :: m11 :: (8 : UInt8) :: (0 : UInt8) :: ys))) - 20) (udpP f0 f1 f2 f3 t0 t1 t2 t3 fr tp [(100 : UInt8), (97 : UInt8), (116 : UInt8), (97 : UInt8)]) = udpP f0 f1 f2 f3 t0 t1 t2 t3 fr tp [(100 : UInt8), (97 : UInt8), (116 : UInt8), (97 : UInt8)]) ::
   (0 + List.length (List.drop 14 (List.take (List.length (m0 :: m1 :: m2 :: m3 :: m4 :: m5 :: m6 :: m7 :: m8 :: m9 :: m10 :: m11 :: (8 : UInt8) :: (0 : UInt8) :: ys)) (m0 :: m1 :: m2 :: m3 :: m4 :: m5 :: m6 :: m7 :: m8 :: m9 :: m10 :: m11 :: (8 : UInt8) :: (0 : UInt8) :: ys))) - 20 = 12) ::
   ((0 : Int) ≤ fr ∧ fr ≤ (65535 : Int)) ::
   ((0 : Int) ≤ tp ∧ tp ≤ (65535 : Int)) ::
   (byteP [f0, f1, f2, f3, t0, t1, t2, t3]) ::
   (4 ≤ 1472) ::
   ((tp == (68 : Int)) = true) ::
   (decide ((↑(0 + List.length (List.drop 14 (List.take (List.length (m0 :: m1 :: m2 :: m3 :: m4 :: m5 :: m6 :: m7 :: m8 :: m9 :: m10 :: m11 :: (8 : UInt8) :: (0 : UInt8) :: ys)) (m0 :: m1 :: m2 :: m3 :: m4 :: m5 :: m6 :: m7 :: m8 :: m9 :: m10 :: m11 :: (8 : UInt8) :: (0 : UInt8) :: ys))) - 20 - 8) : Int) < (240 : Int)) = true) :: [])) := by kernel_rfl
end Go.Proofs.YtfofhpkafhpicaaGreatDoor

/- What the world learns of a frame within that bears a datagram: nothing (known to the engine where it is told). -/
namespace Go.Proofs.YtfofhpkafhpicaaGreatDoor
open Go.RowKit
set_option linter.unusedSimpArgs false
set_option linter.unusedVariables false

def kLr (ttl f0 f1 f2 f3 t0 t1 t2 t3 fr tp : Int) (db : List UInt8) : Inl := fun g xs L nx =>
  match xs with
  | [.ptr _ _ _, .val (.int .i64 0), b] =>
    match bytesOf (hp L) b with
    | some (ys, p) =>
      if L.all (fun p => decide (p.1 < nx)) then
        if g = 21 then
          some (.tup [], L, nx + 200, [p, List.drop 12 ys = 8 :: 0 :: ipP ttl 17 f0 f1 f2 f3 t0 t1 t2 t3 (udpP f0 f1 f2 f3 t0 t1 t2 t3 fr tp db), db = [100, 97, 116, 97], 0 ≤ ttl ∧ ttl ≤ 255, byteP [f0, f1, f2, f3, t0, t1, t2, t3], 0 ≤ fr ∧ fr ≤ 65535, 0 ≤ tp ∧ tp ≤ 65535])
        else none
      else none
    | none => none
  | _ => none

theorem beqF' {a b : Int} (h : a ≠ b) : (a == b) = false := beq_eq_false_iff_ne.2 h
set_option maxHeartbeats 4000000 in
theorem learn_c (m0 m1 m2 m3 m4 m5 m6 m7 m8 m9 m10 m11 : UInt8) (ttl f0 f1 f2 f3 t0 t1 t2 t3 fr tp : Int) (h1 : 0 ≤ ttl ∧ ttl ≤ 255) (hb : byteP [f0, f1, f2, f3, t0, t1, t2, t3]) (h2 : 0 ≤ fr ∧ fr ≤ 65535) (h3 : 0 ≤ tp ∧ tp ≤ 65535) :
    ACall Tryz.prog 21 [.any, .val (.int .i64 0), .bytes (m0 :: m1 :: m2 :: m3 :: m4 :: m5 :: m6 :: m7 :: m8 :: m9 :: m10 :: m11 :: 8 :: 0 :: (ipP ttl 17 f0 f1 f2 f3 t0 t1 t2 t3 (udpP f0 f1 f2 f3 t0 t1 t2 t3 fr tp [100, 97, 116, 97])))] [] 0 (.tup []) [] 200 := by
  obtain ⟨ys, hy⟩ : ∃ ys, ys = (ipP ttl 17 f0 f1 f2 f3 t0 t1 t2 t3 (udpP f0 f1 f2 f3 t0 t1 t2 t3 fr tp [100, 97, 116, 97])) := ⟨_, rfl⟩
  have hu : List.length (udpP f0 f1 f2 f3 t0 t1 t2 t3 fr tp [100, 97, 116, 97]) = 12 := rfl
  have hl : ys.length = 32 := by rw [hy]; rfl
  have hL : List.length (m0 :: m1 :: m2 :: m3 :: m4 :: m5 :: m6 :: m7 :: m8 :: m9 :: m10 :: m11 :: 8 :: 0 :: ys) = 46 := by simp only [List.length_cons, hl]
  have hd : List.drop 14 (List.take 46 (m0 :: m1 :: m2 :: m3 :: m4 :: m5 :: m6 :: m7 :: m8 :: m9 :: m10 :: m11 :: 8 :: 0 :: ys)) = ys := by rw [List.take_of_length_le (by rw [hL]; omega)]; rfl
  have ht : List.take 32 ys = ys := List.take_of_length_le (by omega)
  have htu : List.take 12 (udpP f0 f1 f2 f3 t0 t1 t2 t3 fr tp [100, 97, 116, 97]) = udpP f0 f1 f2 f3 t0 t1 t2 t3 fr tp [100, 97, 116, 97] := rfl
  rw [← hy]
  by_cases h : tp = 68
  · refine ACall.up (n1 := 199) (outT_ok (kPA_ok _) (learn_68 m0 m1 m2 m3 m4 m5 m6 m7 m8 m9 m10 m11 ys ttl f0 f1 f2 f3 t0 t1 t2 t3 fr tp) ?_).1 (by omega)
    repeat' (first | exact allNil | refine allCons ?_ ?_ | (with_reducible refine allRp _ ?_ ?_))
    all_goals ((try simp only [hL, hd, hl, ht, hu, htu, Nat.zero_add]) <;> (first | exact True.intro | (with_reducible rfl) | (with_reducible assumption) | omega | (exact hy) | (exact ⟨by omega, by omega⟩) | (exact decide_eq_false (by omega)) | (exact beq_t (by omega)) | (exact beqF' (by omega)) | (simp [hl, h]; done) | (simp [hl, h]; omega) | (exact rfl)))
  · refine ACall.up (n1 := 168) (outT_ok (kPA_ok _) (learn_n m0 m1 m2 m3 m4 m5 m6 m7 m8 m9 m10 m11 ys ttl f0 f1 f2 f3 t0 t1 t2 t3 fr tp) ?_).1 (by omega)
    repeat' (first | exact allNil | refine allCons ?_ ?_ | (with_reducible refine allRp _ ?_ ?_))
    all_goals ((try simp only [hL, hd, hl, ht, hu, htu, Nat.zero_add]) <;> (first | exact True.intro | (with_reducible rfl) | (with_reducible assumption) | omega | (exact hy) | (exact ⟨by omega, by omega⟩) | (exact decide_eq_false (by omega)) | (exact beq_t (by omega)) | (exact beqF' (by omega)) | (simp [hl, h]; done) | (simp [hl, h]; omega) | (exact rfl)))
theorem twelve {α : Type} (ys : List α) (z : List α) (x y : α) (h : List.drop 12 ys = x :: y :: z) : ∃ m0 m1 m2 m3 m4 m5 m6 m7 m8 m9 m10 m11, ys = m0 :: m1 :: m2 :: m3 :: m4 :: m5 :: m6 :: m7 :: m8 :: m9 :: m10 :: m11 :: x :: y :: z := by
  match ys, h with
  | m0 :: m1 :: m2 :: m3 :: m4 :: m5 :: m6 :: m7 :: m8 :: m9 :: m10 :: m11 :: r, h => exact ⟨m0, m1, m2, m3, m4, m5, m6, m7, m8, m9, m10, m11, by rw [show r = x :: y :: z from h]⟩
theorem kLr_ok (ttl f0 f1 f2 f3 t0 t1 t2 t3 fr tp : Int) (db : List UInt8) : InlOk Tryz.prog (kLr ttl f0 f1 f2 f3 t0 t1 t2 t3 fr tp db) := by
  intro g xs L nx v L' nx' q h hq
  unfold kLr at h
  split at h
  · rename_i id i j b
    split at h
    · rename_i ys p hb
      split at h
      · rename_i hlt
        split at h
        · rename_i hg
          subst hg
          simp only [Option.some.injEq, Prod.mk.injEq] at h
          obtain ⟨rfl, rfl, rfl, rfl⟩ := h
          have c : ∀ p ∈ _, p := hq
          simp only [List.forall_mem_cons, List.not_mem_nil, false_implies, implies_true, and_true] at c
          obtain ⟨c1, c2, c3, c4, c5, c6, c7⟩ := c
          subst c3
          obtain ⟨m0, m1, m2, m3, m4, m5, m6, m7, m8, m9, m10, m11, rfl⟩ := twelve ys _ _ _ c2
          refine ⟨?_, by omega⟩
          have hc := (learn_c m0 m1 m2 m3 m4 m5 m6 m7 m8 m9 m10 m11 ttl f0 f1 f2 f3 t0 t1 t2 t3 fr tp c4 c5 c6 c7).fresh' (L := L) (nx := nx) (by rfl) (by rfl) (FrsL.cons (Frs.any (a := .ptr id i j)) (FrsL.cons (Frs.v _) (FrsL.cons (Frs.bytes hb c1) FrsL.nil))) hlt
          simpa [AV.ren, renL, renH] using hc
        · cases h
      · cases h
    · cases h
  · cases h
def kPkt (ns : List (Nat × Sp)) : Inl := fun g xs L nx =>
  match spOf ns nx with
  | some (.lr ttl f0 f1 f2 f3 t0 t1 t2 t3 fr tp db) => kLr ttl f0 f1 f2 f3 t0 t1 t2 t3 fr tp db g xs L nx
  | _ => kPkt0 ns g xs L nx
theorem kPkt_ok (ns : List (Nat × Sp)) : InlOk Tryz.prog (kPkt ns) := by
  intro g xs L nx v L' nx' q h hq
  unfold kPkt at h
  split at h
  · exact kLr_ok _ _ _ _ _ _ _ _ _ _ _ _ g xs L nx v L' nx' q h hq
  · exact kPkt0_ok ns g xs L nx v L' nx' q h hq
end Go.Proofs.YtfofhpkafhpicaaGreatDoor
