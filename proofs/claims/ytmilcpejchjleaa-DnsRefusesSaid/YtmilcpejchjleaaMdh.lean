/- Several texts in one: Dh0, DhRun, Dh, Fv. -/
import Derived.Test.YtmilcpejchjleaaMdd
import Derived.Test.YtmilcpejchjleaaMrx

/- A message is the same as itself: words, and what the heads of the loops say. -/
namespace Go.Proofs.Ytmilcpejchjleaa
open Go.RowKit

def msgS (id fl : Int) (qs : List DQ) (a o m : List DR) : AObj := objOne 96 [iI id, iI fl, vQ qs, vR a, vR o, vR m]

def srG (rs : List DR) (i : Nat) : GoalX := { len := 64, opn := [(0, vR rs), (1, vR rs), (5, sI i)] }
def srE : GoalX := { len := 64 }
def srL (rs : List DR) : LoopX := { ids := [], G := srG rs 0, ex := .exit 0, E := srE }
def rT (rs : List DR) : Prop := rs.length ≤ 100000 ∧ ∀ i, lsT (rs.getD i dr0).name
def qT (qs : List DQ) : Prop := qs.length ≤ 100000 ∧ ∀ i, lsT (qs.getD i dq0).name
/-- the same records, known to be the same -/
def kSr : Inl := fun g xs L nx =>
  if g = 103 then
    match xs with
    | [x, y] =>
      match WR.of (hp L) x, WR.of (hp L) y with
      | some (a, p), some (b, p') => if L.all (fun q => decide (q.1 < nx)) = true then some (.val (.bool true), L, nx, [p, p', a = b, rT a]) else none
      | _, _ => none
    | _ => none
  else none
def smG (id fl : Int) (qs : List DQ) (a o m : List DR) (i : Nat) : GoalX := { len := 91, tms := [(2, .ptr 0 0 0), (3, .ptr 1 0 0)], opn := [(5, sI i)], oob := [(0, msgS id fl qs a o m), (1, msgS id fl qs a o m)], k := 2 }
def smE : GoalX := { len := 91 }
def smL (id fl : Int) (qs : List DQ) (a o m : List DR) : LoopX := { ids := [0, 1], G := smG id fl qs a o m 0, ex := .exit 0, E := smE }
def kSm : Inl := orInl kSr kRText
end Go.Proofs.Ytmilcpejchjleaa

/- A message is the same as itself, reckoned. -/
namespace Go.Proofs.Ytmilcpejchjleaa
open Go.RowKit

set_option maxRecDepth 100000 in
theorem sr_yes (rs : List DR) : outXS kRText [(103, { br := [(12, false)] })] Try.prog 103 [vR rs, vR rs] [] 0 [] [(4, srL rs)] = some (AV.val (Value.bool true), [], 1, [((↑(List.length rs) : Int) != (↑(List.length rs) : Int)) = false, (vR rs) = vR rs, (vR rs) = vR rs, AV.val (Value.int IntKind.i64 (0 : Int)) = AV.val (Value.int IntKind.i64 (0 : Int)), EvXL Try.prog 0 (loopAt Try.prog 103 4) (GoalX.st (LoopX.G (srL rs)) 0) (LoopX.ex (srL rs)) (GoalX.st (LoopX.E (srL rs)) 0)]) := by kernel_rfl

set_option maxRecDepth 100000 in
theorem sr_step (rs : List DR) (i : Nat) : stepXS kRText [(103, { op := [(7, 11, .br false), (7, 18, .br false), (7, 27, .br false), (7, 36, .br false)], gd := [(7, 6, false), (7, 7, false), (7, 8, false), (7, 9, false), (7, 10, false), (7, 13, false), (7, 14, false), (7, 15, false), (7, 16, false), (7, 17, false), (7, 20, false), (7, 21, false), (7, 22, false), (7, 23, false), (7, 24, false), (7, 25, false), (7, 26, false), (7, 29, false), (7, 30, false), (7, 31, false), (7, 32, false), (7, 33, false), (7, 34, false), (7, 35, false)], br := [(16, true), (63, false)], ob := [(6, 2), (6, 6)] })] Try.prog 103 4 (srG rs i) (srG rs (i + 1)) [] 0 [] = some (.normal, [decide ((↑i : Int) < (↑(List.length rs) : Int)) = true, (0 : Int) ≤ (↑i : Int) ∧ (↑i : Int) < (↑(List.length rs) : Int), (0 : Int) ≤ (↑i : Int) ∧ (↑i : Int) < (↑(List.length rs) : Int), ((List.getD rs (Int.toNat (↑i : Int)) dr0).2 != (List.getD rs (Int.toNat (↑i : Int)) dr0).2) = false, ((List.getD rs (Int.toNat (↑i : Int)) dr0).2 != (List.getD rs (Int.toNat (↑i : Int)) dr0).2) = false, ((List.getD rs (Int.toNat (↑i : Int)) dr0).2 != (List.getD rs (Int.toNat (↑i : Int)) dr0).2) = false, ((List.getD rs (Int.toNat (↑i : Int)) dr0).2 != (List.getD rs (Int.toNat (↑i : Int)) dr0).2) = false, ((List.getD rs (Int.toNat (↑i : Int)) dr0).2 != (List.getD rs (Int.toNat (↑i : Int)) dr0).2) = false, ((List.getD rs (Int.toNat (↑i : Int)) dr0).2 != (List.getD rs (Int.toNat (↑i : Int)) dr0).2) = false, ((List.getD rs (Int.toNat (↑i : Int)) dr0).3 != (List.getD rs (Int.toNat (↑i : Int)) dr0).3) = false, ((List.getD rs (Int.toNat (↑i : Int)) dr0).3 != (List.getD rs (Int.toNat (↑i : Int)) dr0).3) = false, ((List.getD rs (Int.toNat (↑i : Int)) dr0).3 != (List.getD rs (Int.toNat (↑i : Int)) dr0).3) = false, ((List.getD rs (Int.toNat (↑i : Int)) dr0).3 != (List.getD rs (Int.toNat (↑i : Int)) dr0).3) = false, ((List.getD rs (Int.toNat (↑i : Int)) dr0).3 != (List.getD rs (Int.toNat (↑i : Int)) dr0).3) = false, ((List.getD rs (Int.toNat (↑i : Int)) dr0).3 != (List.getD rs (Int.toNat (↑i : Int)) dr0).3) = false, ((List.getD rs (Int.toNat (↑i : Int)) dr0).4 != (List.getD rs (Int.toNat (↑i : Int)) dr0).4) = false, ((List.getD rs (Int.toNat (↑i : Int)) dr0).4 != (List.getD rs (Int.toNat (↑i : Int)) dr0).4) = false, ((List.getD rs (Int.toNat (↑i : Int)) dr0).4 != (List.getD rs (Int.toNat (↑i : Int)) dr0).4) = false, ((List.getD rs (Int.toNat (↑i : Int)) dr0).4 != (List.getD rs (Int.toNat (↑i : Int)) dr0).4) = false, ((List.getD rs (Int.toNat (↑i : Int)) dr0).4 != (List.getD rs (Int.toNat (↑i : Int)) dr0).4) = false, ((List.getD rs (Int.toNat (↑i : Int)) dr0).4 != (List.getD rs (Int.toNat (↑i : Int)) dr0).4) = false, ((List.getD rs (Int.toNat (↑i : Int)) dr0).4 != (List.getD rs (Int.toNat (↑i : Int)) dr0).4) = false, ((List.getD rs (Int.toNat (↑i : Int)) dr0).4 != (List.getD rs (Int.toNat (↑i : Int)) dr0).4) = false, (!ByteArray.toList { data := List.toArray (List.getD rs (Int.toNat (↑i : Int)) dr0).5 } == ByteArray.toList { data := List.toArray (List.getD rs (Int.toNat (↑i : Int)) dr0).5 }) = false, (!ByteArray.toList { data := List.toArray (List.getD rs (Int.toNat (↑i : Int)) dr0).5 } == ByteArray.toList { data := List.toArray (List.getD rs (Int.toNat (↑i : Int)) dr0).5 }) = false, (!ByteArray.toList { data := List.toArray (List.getD rs (Int.toNat (↑i : Int)) dr0).5 } == ByteArray.toList { data := List.toArray (List.getD rs (Int.toNat (↑i : Int)) dr0).5 }) = false, (AV.view 1 (List.length (List.getD rs (Int.toNat (↑i : Int)) dr0).1) fun i_1 => [AV.val (Value.string { data := List.toArray (List.getD (List.getD rs (Int.toNat (↑i : Int)) dr0).1 i_1 []) })]) = AV.view 1 (List.length (lsOf (AV.view 1 (List.length (List.getD rs (Int.toNat (↑i : Int)) dr0).1) fun i_1 => [AV.val (Value.string { data := List.toArray (List.getD (List.getD rs (Int.toNat (↑i : Int)) dr0).1 i_1 []) })]))) fun i_1 => [AV.val (Value.string { data := List.toArray (List.getD (lsOf (AV.view 1 (List.length (List.getD rs (Int.toNat (↑i : Int)) dr0).1) fun i_2 => [AV.val (Value.string { data := List.toArray (List.getD (List.getD rs (Int.toNat (↑i : Int)) dr0).1 i_2 []) })])) i_1 []) })], lsT (lsOf (AV.view 1 (List.length (List.getD rs (Int.toNat (↑i : Int)) dr0).1) fun i_1 => [AV.val (Value.string { data := List.toArray (List.getD (List.getD rs (Int.toNat (↑i : Int)) dr0).1 i_1 []) })])), (!ByteArray.toList { data := List.toArray (List.getD rs (Int.toNat (↑i : Int)) dr0).5 } == ByteArray.toList { data := List.toArray (List.getD rs (Int.toNat (↑i : Int)) dr0).5 }) = false, (!ByteArray.toList { data := List.toArray (List.getD rs (Int.toNat (↑i : Int)) dr0).5 } == ByteArray.toList { data := List.toArray (List.getD rs (Int.toNat (↑i : Int)) dr0).5 }) = false, (!ByteArray.toList { data := List.toArray (List.getD rs (Int.toNat (↑i : Int)) dr0).5 } == ByteArray.toList { data := List.toArray (List.getD rs (Int.toNat (↑i : Int)) dr0).5 }) = false, (AV.view 1 (List.length (List.getD rs (Int.toNat (↑i : Int)) dr0).1) fun i_1 => [AV.val (Value.string { data := List.toArray (List.getD (List.getD rs (Int.toNat (↑i : Int)) dr0).1 i_1 []) })]) = AV.view 1 (List.length (lsOf (AV.view 1 (List.length (List.getD rs (Int.toNat (↑i : Int)) dr0).1) fun i_1 => [AV.val (Value.string { data := List.toArray (List.getD (List.getD rs (Int.toNat (↑i : Int)) dr0).1 i_1 []) })]))) fun i_1 => [AV.val (Value.string { data := List.toArray (List.getD (lsOf (AV.view 1 (List.length (List.getD rs (Int.toNat (↑i : Int)) dr0).1) fun i_2 => [AV.val (Value.string { data := List.toArray (List.getD (List.getD rs (Int.toNat (↑i : Int)) dr0).1 i_2 []) })])) i_1 []) })], lsT (lsOf (AV.view 1 (List.length (List.getD rs (Int.toNat (↑i : Int)) dr0).1) fun i_1 => [AV.val (Value.string { data := List.toArray (List.getD (List.getD rs (Int.toNat (↑i : Int)) dr0).1 i_1 []) })])), (!ByteArray.toList { data := List.toArray (List.getD rs (Int.toNat (↑i : Int)) dr0).5 } == ByteArray.toList { data := List.toArray (List.getD rs (Int.toNat (↑i : Int)) dr0).5 }) = false, (!ByteArray.toList { data := List.toArray (List.getD rs (Int.toNat (↑i : Int)) dr0).5 } == ByteArray.toList { data := List.toArray (List.getD rs (Int.toNat (↑i : Int)) dr0).5 }) = false, (!ByteArray.toList { data := List.toArray (textN (lsOf (AV.view 1 (List.length (List.getD rs (Int.toNat (↑i : Int)) dr0).1) fun i_1 => [AV.val (Value.string { data := List.toArray (List.getD (List.getD rs (Int.toNat (↑i : Int)) dr0).1 i_1 []) })]))) } == ByteArray.toList { data := List.toArray (textN (lsOf (AV.view 1 (List.length (List.getD rs (Int.toNat (↑i : Int)) dr0).1) fun i_1 => [AV.val (Value.string { data := List.toArray (List.getD (List.getD rs (Int.toNat (↑i : Int)) dr0).1 i_1 []) })]))) }) = false, (vR rs) = vR rs, (vR rs) = vR rs, AV.val (Value.int IntKind.i64 (IntKind.wrap IntKind.i64 ((↑i : Int) + (1 : Int)))) = AV.val (Value.int IntKind.i64 (↑(i + 1) : Int))]) := by kernel_rfl

set_option maxRecDepth 100000 in
theorem sr_end (rs : List DR) (i : Nat) : stepXS kRText [(103, { br := [(16, false)] })] Try.prog 103 4 (srG rs i) (srE) [] 0 [] = some (.exit 0, [decide ((↑i : Int) < (↑(List.length rs) : Int)) = false]) := by kernel_rfl

set_option maxRecDepth 100000 in
theorem sm_yes (id : Int) (fl : Int) (qs : List DQ) (a : List DR) (o : List DR) (m : List DR) : outXS kSm [(60, { op := [(1, 11, .br false), (1, 20, .br false), (1, 28, .br false)], gd := [(1, 6, false), (1, 7, false), (1, 8, false), (1, 9, false), (1, 10, false), (1, 13, false), (1, 14, false), (1, 15, false), (1, 16, false), (1, 17, false), (1, 18, false), (1, 19, false), (1, 22, false), (1, 23, false), (1, 24, false), (1, 25, false), (1, 26, false), (1, 27, false)] })] Try.prog 60 [AV.agg [AV.val (Value.int IntKind.i64 id), AV.val (Value.int IntKind.i64 fl), vQ qs, vR a, vR o, vR m], AV.agg [AV.val (Value.int IntKind.i64 id), AV.val (Value.int IntKind.i64 fl), vQ qs, vR a, vR o, vR m]] [] 0 [] [(4, smL id fl qs a o m)] = some (AV.val (Value.bool true), [], 1, [(id != id) = false, (id != id) = false, (id != id) = false, (id != id) = false, (id != id) = false, (id != id) = false, (fl != fl) = false, (fl != fl) = false, (fl != fl) = false, (fl != fl) = false, (fl != fl) = false, (fl != fl) = false, (fl != fl) = false, (fl != fl) = false, ((↑(List.length qs) : Int) != (↑(List.length qs) : Int)) = false, ((↑(List.length qs) : Int) != (↑(List.length qs) : Int)) = false, ((↑(List.length qs) : Int) != (↑(List.length qs) : Int)) = false, ((↑(List.length qs) : Int) != (↑(List.length qs) : Int)) = false, ((↑(List.length qs) : Int) != (↑(List.length qs) : Int)) = false, (vR a) = vR (ofVR (vR a)), (vR a) = vR (ofVR (vR a)), ofVR (vR a) = ofVR (vR a), rT (ofVR (vR a)), ((↑(List.length qs) : Int) != (↑(List.length qs) : Int)) = false, ((↑(List.length qs) : Int) != (↑(List.length qs) : Int)) = false, (vR o) = vR (ofVR (vR o)), (vR o) = vR (ofVR (vR o)), ofVR (vR o) = ofVR (vR o), rT (ofVR (vR o)), (vR m) = vR (ofVR (vR m)), (vR m) = vR (ofVR (vR m)), ofVR (vR m) = ofVR (vR m), rT (ofVR (vR m)), AV.val (Value.int IntKind.i64 (0 : Int)) = AV.val (Value.int IntKind.i64 (0 : Int)), SameO (some { t := 96, sz := 6, exact := true, fz := false, body := Body.rows [[AV.val (Value.int IntKind.i64 id), AV.val (Value.int IntKind.i64 fl), vQ qs, vR a, vR o, vR m]] }) { t := 96, sz := 6, exact := true, fz := false, body := Body.rows [[AV.val (Value.int IntKind.i64 id), AV.val (Value.int IntKind.i64 fl), vQ qs, vR a, vR o, vR m]] }, SameO (some { t := 96, sz := 6, exact := true, fz := false, body := Body.rows [[AV.val (Value.int IntKind.i64 id), AV.val (Value.int IntKind.i64 fl), vQ qs, vR a, vR o, vR m]] }) { t := 96, sz := 6, exact := true, fz := false, body := Body.rows [[AV.val (Value.int IntKind.i64 id), AV.val (Value.int IntKind.i64 fl), vQ qs, vR a, vR o, vR m]] }, EvXL Try.prog 0 (loopAt Try.prog 60 4) (GoalX.st (LoopX.G (smL id fl qs a o m)) 0) (LoopX.ex (smL id fl qs a o m)) (GoalX.st (LoopX.E (smL id fl qs a o m)) 0)]) := by kernel_rfl

set_option maxRecDepth 100000 in
theorem sm_step (id : Int) (fl : Int) (qs : List DQ) (a : List DR) (o : List DR) (m : List DR) (i : Nat) : stepXS kSm [(60, { op := [(7, 11, .br false), (7, 20, .br false)], gd := [(7, 6, false), (7, 7, false), (7, 8, false), (7, 9, false), (7, 10, false), (7, 13, false), (7, 14, false), (7, 15, false), (7, 16, false), (7, 17, false), (7, 18, false), (7, 19, false)], br := [(57, true), (90, false)], ob := [(6, 3), (6, 8)] })] Try.prog 60 4 (smG id fl qs a o m i) (smG id fl qs a o m (i + 1)) [0, 1] 0 [] = some (.normal, [decide ((↑i : Int) < (↑(List.length qs) : Int)) = true, (0 : Int) ≤ (↑i : Int) ∧ (↑i : Int) < (↑(List.length qs) : Int), (0 : Int) ≤ (↑i : Int) ∧ (↑i : Int) < (↑(List.length qs) : Int), ((List.getD qs (Int.toNat (↑i : Int)) dq0).2 != (List.getD qs (Int.toNat (↑i : Int)) dq0).2) = false, ((List.getD qs (Int.toNat (↑i : Int)) dq0).2 != (List.getD qs (Int.toNat (↑i : Int)) dq0).2) = false, ((List.getD qs (Int.toNat (↑i : Int)) dq0).2 != (List.getD qs (Int.toNat (↑i : Int)) dq0).2) = false, ((List.getD qs (Int.toNat (↑i : Int)) dq0).2 != (List.getD qs (Int.toNat (↑i : Int)) dq0).2) = false, ((List.getD qs (Int.toNat (↑i : Int)) dq0).2 != (List.getD qs (Int.toNat (↑i : Int)) dq0).2) = false, ((List.getD qs (Int.toNat (↑i : Int)) dq0).2 != (List.getD qs (Int.toNat (↑i : Int)) dq0).2) = false, ((List.getD qs (Int.toNat (↑i : Int)) dq0).3 != (List.getD qs (Int.toNat (↑i : Int)) dq0).3) = false, ((List.getD qs (Int.toNat (↑i : Int)) dq0).3 != (List.getD qs (Int.toNat (↑i : Int)) dq0).3) = false, ((List.getD qs (Int.toNat (↑i : Int)) dq0).3 != (List.getD qs (Int.toNat (↑i : Int)) dq0).3) = false, (AV.view 1 (List.length (List.getD qs (Int.toNat (↑i : Int)) dq0).1) fun i_1 => [AV.val (Value.string { data := List.toArray (List.getD (List.getD qs (Int.toNat (↑i : Int)) dq0).1 i_1 []) })]) = AV.view 1 (List.length (lsOf (AV.view 1 (List.length (List.getD qs (Int.toNat (↑i : Int)) dq0).1) fun i_1 => [AV.val (Value.string { data := List.toArray (List.getD (List.getD qs (Int.toNat (↑i : Int)) dq0).1 i_1 []) })]))) fun i_1 => [AV.val (Value.string { data := List.toArray (List.getD (lsOf (AV.view 1 (List.length (List.getD qs (Int.toNat (↑i : Int)) dq0).1) fun i_2 => [AV.val (Value.string { data := List.toArray (List.getD (List.getD qs (Int.toNat (↑i : Int)) dq0).1 i_2 []) })])) i_1 []) })], lsT (lsOf (AV.view 1 (List.length (List.getD qs (Int.toNat (↑i : Int)) dq0).1) fun i_1 => [AV.val (Value.string { data := List.toArray (List.getD (List.getD qs (Int.toNat (↑i : Int)) dq0).1 i_1 []) })])), ((List.getD qs (Int.toNat (↑i : Int)) dq0).3 != (List.getD qs (Int.toNat (↑i : Int)) dq0).3) = false, ((List.getD qs (Int.toNat (↑i : Int)) dq0).3 != (List.getD qs (Int.toNat (↑i : Int)) dq0).3) = false, ((List.getD qs (Int.toNat (↑i : Int)) dq0).3 != (List.getD qs (Int.toNat (↑i : Int)) dq0).3) = false, (AV.view 1 (List.length (List.getD qs (Int.toNat (↑i : Int)) dq0).1) fun i_1 => [AV.val (Value.string { data := List.toArray (List.getD (List.getD qs (Int.toNat (↑i : Int)) dq0).1 i_1 []) })]) = AV.view 1 (List.length (lsOf (AV.view 1 (List.length (List.getD qs (Int.toNat (↑i : Int)) dq0).1) fun i_1 => [AV.val (Value.string { data := List.toArray (List.getD (List.getD qs (Int.toNat (↑i : Int)) dq0).1 i_1 []) })]))) fun i_1 => [AV.val (Value.string { data := List.toArray (List.getD (lsOf (AV.view 1 (List.length (List.getD qs (Int.toNat (↑i : Int)) dq0).1) fun i_2 => [AV.val (Value.string { data := List.toArray (List.getD (List.getD qs (Int.toNat (↑i : Int)) dq0).1 i_2 []) })])) i_1 []) })], lsT (lsOf (AV.view 1 (List.length (List.getD qs (Int.toNat (↑i : Int)) dq0).1) fun i_1 => [AV.val (Value.string { data := List.toArray (List.getD (List.getD qs (Int.toNat (↑i : Int)) dq0).1 i_1 []) })])), ((List.getD qs (Int.toNat (↑i : Int)) dq0).3 != (List.getD qs (Int.toNat (↑i : Int)) dq0).3) = false, ((List.getD qs (Int.toNat (↑i : Int)) dq0).3 != (List.getD qs (Int.toNat (↑i : Int)) dq0).3) = false, (!ByteArray.toList { data := List.toArray (textN (lsOf (AV.view 1 (List.length (List.getD qs (Int.toNat (↑i : Int)) dq0).1) fun i_1 => [AV.val (Value.string { data := List.toArray (List.getD (List.getD qs (Int.toNat (↑i : Int)) dq0).1 i_1 []) })]))) } == ByteArray.toList { data := List.toArray (textN (lsOf (AV.view 1 (List.length (List.getD qs (Int.toNat (↑i : Int)) dq0).1) fun i_1 => [AV.val (Value.string { data := List.toArray (List.getD (List.getD qs (Int.toNat (↑i : Int)) dq0).1 i_1 []) })]))) }) = false, AV.val (Value.int IntKind.i64 (IntKind.wrap IntKind.i64 ((↑i : Int) + (1 : Int)))) = AV.val (Value.int IntKind.i64 (↑(i + 1) : Int)), SameO (some { t := 96, sz := 6, exact := true, fz := false, body := Body.rows [[AV.val (Value.int IntKind.i64 id), AV.val (Value.int IntKind.i64 fl), vQ qs, vR a, vR o, vR m]] }) { t := 96, sz := 6, exact := true, fz := false, body := Body.rows [[AV.val (Value.int IntKind.i64 id), AV.val (Value.int IntKind.i64 fl), vQ qs, vR a, vR o, vR m]] }, SameO (some { t := 96, sz := 6, exact := true, fz := false, body := Body.rows [[AV.val (Value.int IntKind.i64 id), AV.val (Value.int IntKind.i64 fl), vQ qs, vR a, vR o, vR m]] }) { t := 96, sz := 6, exact := true, fz := false, body := Body.rows [[AV.val (Value.int IntKind.i64 id), AV.val (Value.int IntKind.i64 fl), vQ qs, vR a, vR o, vR m]] }]) := by kernel_rfl

set_option maxRecDepth 100000 in
theorem sm_end (id : Int) (fl : Int) (qs : List DQ) (a : List DR) (o : List DR) (m : List DR) (i : Nat) : stepXS kSm [(60, { br := [(57, false)] })] Try.prog 60 4 (smG id fl qs a o m i) (smE) [] 0 [] = some (.exit 0, [decide ((↑i : Int) < (↑(List.length qs) : Int)) = false]) := by kernel_rfl
end Go.Proofs.Ytmilcpejchjleaa

/- A message is the same as itself: SameMessage as a known function. -/
namespace Go.Proofs.Ytmilcpejchjleaa
open Go.RowKit
set_option linter.unusedSimpArgs false
set_option linter.unusedVariables false

theorem bne_self (z : Int) : (z != z) = false := by simp
theorem bl_self (x : ByteArray) : (!ByteArray.toList x == ByteArray.toList x) = false := by simp

theorem sr_loop (rs : List DR) (hk : rT rs) : ∀ (k i : Nat), i + k = rs.length →
    EvXL Try.prog 0 (loopAt Try.prog 103 4) ((srG rs i).st 0) (.exit 0) (srE.st 0)
  | 0, i, h => EvXL.last (stepXS_ok kRText_ok (sr_end rs i) (by
      repeat' (first | exact allNil | refine allCons ?_ ?_ | (with_reducible refine allRp _ ?_ ?_))
      all_goals first | (with_reducible rfl) | exact decide_eq_false (by omega) | exact rfl)) (by simp)
  | k + 1, i, h => by
    have hl := hk.1
    have en := lsOf_vS (rs.getD i dr0).name
    unfold vS sStr at en
    have ht := hk.2 i
    refine EvXL.step (stepXS_ok kRText_ok (sr_step rs i) ?_) (sr_loop rs hk k (i + 1) (by omega))
    simp only [Int.toNat_natCast, en]
    repeat' (first | exact allNil | refine allCons ?_ ?_ | (with_reducible refine allRp _ ?_ ?_))
    all_goals first | (with_reducible rfl) | exact True.intro | exact bne_self _ | exact bl_self _ | exact ht | exact decide_eq_true (by omega) | exact sI_succ i (by omega) | omega | exact rfl

theorem sr_call (rs : List DR) (hk : rT rs) : ACall Try.prog 103 [vR rs, vR rs] [] 0 (.val (.bool true)) [] 0 := by
  have h := sr_loop rs hk rs.length 0 (by omega)
  refine (outXS_ok kRText_ok (sr_yes rs) ?_).lift (fun r => rfl) [] 0
  repeat' (first | exact allNil | refine allCons ?_ ?_ | (with_reducible refine allRp _ ?_ ?_))
  all_goals first | (with_reducible rfl) | exact h | exact bne_self _ | exact rfl

theorem kSr_ok : InlOk Try.prog kSr := by
  intro g xs L nx w L' nx' q h hq
  unfold kSr at h
  split at h
  · rename_i hg
    subst hg
    split at h
    · rename_i x y
      split at h
      · rename_i a p b p' hx hy
        split at h
        · rename_i hlt
          simp only [Option.some.injEq, Prod.mk.injEq] at h
          obtain ⟨rfl, rfl, rfl, rfl⟩ := h
          simp only [List.forall_mem_cons, List.not_mem_nil, false_implies, implies_true, and_true] at hq
          obtain ⟨q1, q2, rfl, q4⟩ := hq
          obtain ⟨x', hfx, hrx⟩ := WR.of_frs hx q1
          obtain ⟨y', hfy, hry⟩ := WR.of_frs hy q2
          have := (sr_call a q4).fresh' (L := L) (nx := nx) (by rfl) (by rfl) (FrsL.cons hfx (FrsL.cons hfy FrsL.nil)) hlt
          have h2 : ACall Try.prog 103 [x', y'] L nx (.val (.bool true)) L nx := by simpa [AV.ren, renH] using this
          exact ⟨h2.argsL (.cons hrx (.cons hry .nil)), Nat.le_refl _⟩
        · cases h
      · cases h
    · cases h
  · cases h
theorem kSm_ok : InlOk Try.prog kSm := orInl_ok kSr_ok kRText_ok

theorem sm_loop (id fl : Int) (qs : List DQ) (a o m : List DR) (hk : qT qs) : ∀ (k i : Nat), i + k = qs.length →
    EvXL Try.prog 0 (loopAt Try.prog 60 4) ((smG id fl qs a o m i).st 0) (.exit 0) (smE.st 0)
  | 0, i, h => EvXL.last (stepXS_ok kSm_ok (sm_end id fl qs a o m i) (by
      repeat' (first | exact allNil | refine allCons ?_ ?_ | (with_reducible refine allRp _ ?_ ?_))
      all_goals first | (with_reducible rfl) | exact decide_eq_false (by omega) | exact rfl)) (by simp)
  | k + 1, i, h => by
    have hl := hk.1
    have en := lsOf_vS (qs.getD i dq0).name
    unfold vS sStr at en
    have ht := hk.2 i
    refine EvXL.step (stepXS_ok kSm_ok (sm_step id fl qs a o m i) ?_) (sm_loop id fl qs a o m hk k (i + 1) (by omega))
    simp only [Int.toNat_natCast, en]
    repeat' (first | exact allNil | refine allCons ?_ ?_ | (with_reducible refine allRp _ ?_ ?_))
    all_goals first | (with_reducible rfl) | exact True.intro | exact bne_self _ | exact bl_self _ | exact ht | exact decide_eq_true (by omega) | exact sI_succ i (by omega) | omega | exact rfl

set_option maxRecDepth 20000 in
theorem sm_call (id fl : Int) (qs : List DQ) (a o m : List DR) (hq : qT qs) (ha : rT a) (ho : rT o) (hm : rT m) : ACall Try.prog 60 [msgA id fl qs a o m, msgA id fl qs a o m] [] 0 (.val (.bool true)) [] 0 := by
  have h := sm_loop id fl qs a o m hq qs.length 0 (by omega)
  have ea := ofVR_v a
  have eo := ofVR_v o
  have em := ofVR_v m
  refine (outXS_ok kSm_ok (sm_yes id fl qs a o m) ?_).lift (fun r => rfl) [] 0
  simp only [WR_fV, ea, eo, em]
  repeat' (first | exact allNil | refine allCons ?_ ?_ | (with_reducible refine allRp _ ?_ ?_))
  all_goals first | (with_reducible rfl) | exact True.intro | exact h | exact bne_self _ | exact ha | exact ho | exact hm | exact rfl

/-- the same messages, known to be the same -/
def kSmM : Inl := fun g xs L nx =>
  if g = 60 then
    match xs with
    | [.agg [.val (.int .i64 id), .val (.int .i64 fl), q, a, o, m], .agg [.val (.int .i64 id2), .val (.int .i64 fl2), q2, a2, o2, m2]] =>
      match WQ.of (hp L) q, WR.of (hp L) a, WR.of (hp L) o, WR.of (hp L) m, WQ.of (hp L) q2, WR.of (hp L) a2, WR.of (hp L) o2, WR.of (hp L) m2 with
      | some (qs, p1), some (al, p2), some (os, p3), some (ms, p4), some (qs2, p5), some (as2, p6), some (os2, p7), some (ms2, p8) =>
        if L.all (fun q => decide (q.1 < nx)) = true then
          some (.val (.bool true), L, nx, [id = id2, fl = fl2, p1, p2, p3, p4, p5, p6, p7, p8, qs = qs2, al = as2, os = os2, ms = ms2, qT qs, rT al, rT os, rT ms])
        else none
      | _, _, _, _, _, _, _, _ => none
    | _ => none
  else none
theorem RepLe.agg {l l' : List AV} (h : RepLe l l') : ∀ E w u, Rep E w (.agg l') u → Rep E w (.agg l) u := fun E w u r => by
  cases r with
  | agg hn hh =>
    refine .agg (by rw [h.len]; exact hn) fun k a v h1 h2 => ?_
    have hk : k < l'.length := by rw [← h.len]; exact (List.getElem?_eq_some_iff.1 h1).1
    exact h.get k a _ h1 (List.getElem?_eq_getElem hk) E w v (hh k _ v (List.getElem?_eq_getElem hk) h2)
theorem kSmM_ok : InlOk Try.prog kSmM := by
  intro g xs L nx w L' nx' q h hq
  unfold kSmM at h
  split at h
  · rename_i hg
    subst hg
    split at h
    · rename_i id fl q a o m id2 fl2 q2 a2 o2 m2
      split at h
      · rename_i qs p1 al p2 os p3 ms p4 qs2 p5 as2 p6 os2 p7 ms2 p8 h1 h2 h3 h4 h5 h6 h7 h8
        split at h
        · rename_i hlt
          simp only [Option.some.injEq, Prod.mk.injEq] at h
          obtain ⟨rfl, rfl, rfl, rfl⟩ := h
          simp only [List.forall_mem_cons, List.not_mem_nil, false_implies, implies_true, and_true] at hq
          obtain ⟨rfl, rfl, c1, c2, c3, c4, c5, c6, c7, c8, rfl, rfl, rfl, rfl, d1, d2, d3, d4⟩ := hq
          obtain ⟨y1, f1, r1⟩ := WQ.of_frs h1 c1
          obtain ⟨y2, f2, r2⟩ := WR.of_frs h2 c2
          obtain ⟨y3, f3, r3⟩ := WR.of_frs h3 c3
          obtain ⟨y4, f4, r4⟩ := WR.of_frs h4 c4
          obtain ⟨y5, f5, r5⟩ := WQ.of_frs h5 c5
          obtain ⟨y6, f6, r6⟩ := WR.of_frs h6 c6
          obtain ⟨y7, f7, r7⟩ := WR.of_frs h7 c7
          obtain ⟨y8, f8, r8⟩ := WR.of_frs h8 c8
          have := (sm_call id fl qs al os ms d1 d2 d3 d4).fresh' (L := L) (nx := nx) (by rfl) (by rfl)
            (FrsL.cons (FrsL.agg (FrsL.cons (Frs.v _) (FrsL.cons (Frs.v _) (FrsL.cons f1 (FrsL.cons f2 (FrsL.cons f3 (FrsL.cons f4 FrsL.nil)))))))
              (FrsL.cons (FrsL.agg (FrsL.cons (Frs.v _) (FrsL.cons (Frs.v _) (FrsL.cons f5 (FrsL.cons f6 (FrsL.cons f7 (FrsL.cons f8 FrsL.nil))))))) FrsL.nil)) hlt
          have h2 := by simpa [AV.ren, renH] using this
          exact ⟨ACall.argsL h2 (.cons (RepLe.agg (.cons (sameA _) (.cons (sameA _) (.cons r1 (.cons r2 (.cons r3 (.cons r4 .nil))))))) (.cons (RepLe.agg (.cons (sameA _) (.cons (sameA _) (.cons r5 (.cons r6 (.cons r7 (.cons r8 .nil))))))) .nil)), Nat.le_refl _⟩
        · cases h
      · cases h
    · cases h
  · cases h
end Go.Proofs.Ytmilcpejchjleaa

/- Results that are told by what they hold: calls that make things which nobody writes any more. -/
namespace Go.Proofs.Ytmilcpejchjleaa
open Go.RowKit

/-- what a call does out of nothing, if neither its arguments nor its result lead to objects, it does anywhere -/
theorem ACall.liftV {P : Program} {g : FuncId} {xs : List AV} {v : AV} {n' : Nat} (h : ACall P g xs [] 0 v [] n') (hx : ∀ r, renL r xs = xs) (hv : ∀ r : Nat → Nat, v.ren r = v) (L : List (Nat × AObj)) (nx : Nat) : ACall P g xs L nx v L nx := by
  intro E w vs hs hr
  have s0 : Sat ⟨fun _ => none, E.I⟩ 0 (hp []) w := ⟨fun _ _ h => by simp [hp] at h, fun _ _ _ _ _ _ _ _ _ h => by simp [hp] at h, fun _ _ => rfl, hs.imm⟩
  have r0 : Reps ⟨fun _ => none, E.I⟩ w xs vs := by
    refine ⟨hr.1, fun k a u h1 h2 => ?_⟩
    have e : (renL (fun id => id + nx) xs)[k]? = some (a.ren fun id => id + nx) := by rw [renL_get, h1]; rfl
    rw [hx] at e
    exact Rep.of_ren (E := E) (E0 := ⟨fun _ => none, E.I⟩) (r := fun id => id + nx) (fun _ h => h) (fun id => (hs.fresh (id + nx) (by omega)).symm) (hr.2 k _ u e h2) a rfl
  refine Calls.mono (h _ w vs s0 r0) fun e w' hh => ?_
  obtain ⟨E', u, rfl, t1, t2, t3⟩ := hh
  have hold : ∀ b, b < w.heap.size → w'.heap[b]? = w.heap[b]? := fun b hb => t3.fr b hb fun ⟨id, o, c, z, h1, _⟩ => by simp [hp] at h1
  have hI' : ∀ b, E'.I b → E.I b ∨ w.heap.size ≤ b := fun b hb => by
    rcases t3.I' b hb with h | h | ⟨id, o, c, z, h1, _⟩
    · exact .inl h
    · exact .inr h
    · simp [hp] at h1
  have rv : Rep ⟨fun _ => none, E'.I⟩ w' v u := Rep.of_ren (E := E') (E0 := ⟨fun _ => none, E'.I⟩) (r := fun i => i + n') (fun b hb => hb) (fun i => (t1.fresh (i + n') (by omega)).symm) t2 v (hv _).symm
  have m2 : More ⟨fun _ => none, E'.I⟩ w' ⟨E.f, E'.I⟩ w' := ⟨fun _ _ h => (by cases h), fun _ h => h, fun _ _ => rfl⟩
  have rv2 := rv.more m2
  have m : More E w ⟨E.f, E'.I⟩ w' := ⟨fun _ _ h => h, t3.I, fun b hb => hold b (hs.imm b hb)⟩
  refine ⟨⟨E.f, E'.I⟩, u, rfl, ⟨fun k o hk => ?_, hs.inj, hs.fresh, t1.imm⟩, rv2, ⟨fun _ _ h => h, fun _ _ h => .inl h, t3.I, fun b hb => (hI' b hb).imp_right .inl, fun b hb _ => hold b hb, fun b hb => .inl hb, t3.size, t3.os, t3.tape, t3.output⟩⟩
  obtain ⟨p, hp', ro⟩ := hs.rows _ _ hk
  refine ⟨p, hp', ?_⟩
  cases p with
  | nil => exact ro
  | at_ b c sz => exact ro.more m (fun hI => (hI' b hI).elim ro.2.1 fun h => by have := hs.lt hk hp'; omega) (hold b (hs.lt hk hp'))

/-- the result told otherwise, for objects that are not written any more -/
theorem ACall.told {P : Program} {g : FuncId} {xs : List AV} {L L1 L2 : List (Nat × AObj)} {nx n1 : Nat} {v v' : AV} (B : List Nat) (h : ACall P g xs L nx v L1 n1) (hB : ∀ id ∈ B, ∃ x, hp L1 id = some x) (hsub : ∀ id x, hp L2 id = some x → id ∉ B ∧ hp L1 id = some x)
    (hv : ∀ E w u, Sat E n1 (hp L1) w → Rep E w v u → Rep (E.frz B) w v' u) : ACall P g xs L nx v' L2 n1 := by
  intro E w vs hs' hreps
  refine Calls.mono (h E w vs hs' hreps) fun e w' hh => ?_
  obtain ⟨E', u, rfl, t1, t2, t3⟩ := hh
  obtain ⟨f1, f2⟩ := sat_frz (N := fun id => nx ≤ id) t1 hB
  have f3 := f1.sub (K := hp L2) fun id x hx => dropH_some.2 (hsub id x hx)
  refine ⟨E'.frz B, u, rfl, f3, hv E' w' u t1 t2, ?_⟩
  have x2 := t3.trans f2 (fun _ h => h) (fun _ h => h) (M := fun id => nx ≤ id)
  refine ⟨x2.f, x2.nw, x2.I, x2.I', x2.fr, fun b hb => x2.hb b ?_, x2.size, x2.os, x2.tape, x2.output⟩
  obtain ⟨id, x, c', sz, h1, h2⟩ := hb
  exact ⟨id, x, c', sz, dropH_some.2 (hsub id x h1), h2⟩

/-- rows of one's own, told by what they hold -/
theorem RTyW.frzRows {α : Type} (R : RTyW α) {E : Env} {nx : Nat} {H : Heap} {w : World} {B : List Nat} {id n : Nat} {ob : AObj} {ls : List α} {u : Value} (s : Sat E nx H w) (hid : H id = some ob) (hB : id ∈ B) (hb : ob.body = .rows (rowsG R.R ls) ∨ ob.body = .flat (rowsG R.R ls)) (hz : ob.sz = R.R.sz) (hn : n = ls.length)
    (r : Rep E w (.sl id 0 n none) u) : Rep (E.frz B) w (R.vv ls) u := by
  obtain ⟨p, hp0, ro⟩ := s.rows _ _ hid
  subst hn
  have := Bor.rep hp0 ro (more_frz E w B) (fun x hx => by
    cases p with
    | nil => exact hx.elim
    | at_ b c sz => exact .inr ⟨id, hB, c, sz, by rw [show x = b from hx]; exact hp0⟩)
    (Bor.view (id := id) (o := ob) (off := 0) (n := ls.length) (lim := none) (g := fun i => R.R.row (ls.getD i R.R.d)) hb (by simp [rowsG]) (fun i hi => by
      simp [rowsG, List.getD_eq_getElem?_getD, hi]) (fun i _ => by rw [hz]; exact R.R.len _)) r
  rw [hz] at this
  rw [R.hv]
  exact this
end Go.Proofs.Ytmilcpejchjleaa
