/- Several texts in one: Db0, DbRun, Db. -/
import Derived.Test.YtmilcpejchjleaaMda

/- Whether a message's parts may be: words, and what the heads of the loops say. -/
namespace Go.Proofs.Ytmilcpejchjleaa
open Go.RowKit

def pairB (z : Int) : Bool := decide (0 ≤ z) && decide (z ≤ 65535)
def qOk (q : DQ) : Bool := pairB q.ty && pairB q.cl && goodN q.name
def rOk (r : DR) : Bool := pairB r.ty && pairB r.cl && goodN r.name && decide (r.data.length ≤ 65535)
def kPair : Inl := fun g xs L nx =>
  if g = 129 then
    match xs with
    | [.val (.int .i64 z)] => if L.all (fun q => decide (q.1 < nx)) = true then some (.val (.bool (pairB z)), L, nx, []) else none
    | _ => none
  else none
def kDg : Inl := orInl kPair kGoodP

def msgO (id fl : Int) (qs : List DQ) (a o m : List DR) : AObj := objOne 36 [iI id, iI fl, vQ qs, vR a, vR o, vR m]
def gqG (id fl : Int) (qs : List DQ) (a o m : List DR) (i : Nat) : GoalX := { len := 103, tms := [(1, .ptr 0 0 0)], opn := [(38, vQ qs), (39, sI qs.length), (40, sI i)], oob := [(0, msgO id fl qs a o m)], k := 1 }
def gqE (id fl : Int) (qs : List DQ) (a o m : List DR) : GoalX := { len := 103, tms := [(1, .ptr 0 0 0)], oob := [(0, msgO id fl qs a o m)], k := 1 }
def gdN2 : GoalX := { len := 103, tms := [(2, .val (.bool false))] }
def lists3 (a o m : List DR) : AObj := objRows 34 1 3 [vR a, vR o, vR m]
def glG (a o m : List DR) (j : Nat) : GoalX := { len := 103, tms := [(67, .sl 0 0 3 none), (68, iI 3)], opn := [(69, sI j)], oob := [(0, lists3 a o m)], k := 1 }
def giG (a o m : List DR) (j : Nat) (rs : List DR) (i : Nat) : GoalX := { len := 103, tms := [(67, .sl 0 0 3 none), (68, iI 3)], opn := [(69, sI j), (73, vR rs), (74, sI rs.length), (75, sI i)], oob := [(0, lists3 a o m)], k := 1 }
def glE : GoalX := { len := 103 }
def gqL (id fl : Int) (qs : List DQ) (a o m : List DR) (e : Ex) (E : GoalX) : LoopX := { ids := [0], G := gqG id fl qs a o m 0, ex := e, E := E }
def glL (a o m : List DR) (e : Ex) (E : GoalX) : LoopX := { ids := [7], G := glG a o m 0, ex := e, E := E }
def giL (a o m : List DR) (j : Nat) (rs : List DR) (e : Ex) (E : GoalX) : LoopX := { ids := [0], G := giG a o m j rs 0, ex := e, E := E }
end Go.Proofs.Ytmilcpejchjleaa

/- Whether a message's parts may be, reckoned. -/
namespace Go.Proofs.Ytmilcpejchjleaa
open Go.RowKit

set_option maxRecDepth 100000 in
theorem pair_neg (z : Int) : outXS noneKnown [(129, { op := [(1, 5, .br false)], gd := [(1, 3, false), (1, 4, false)] })] Try.prog 129 [AV.val (Value.int IntKind.i64 z)] [] 0 [] [] = some (AV.val (Value.bool false), [], 8, [decide (z ≥ (0 : Int)) = false, decide (z ≥ (0 : Int)) = false, decide (z ≥ (0 : Int)) = false]) := by kernel_rfl

set_option maxRecDepth 100000 in
theorem pair_big (z : Int) : outXS noneKnown [(129, { op := [(1, 5, .br true)], gd := [(1, 3, true), (1, 4, true)] })] Try.prog 129 [AV.val (Value.int IntKind.i64 z)] [] 0 [] [] = some (AV.val (Value.bool (decide (z ≤ (65535 : Int)))), [], 8, [decide (z ≥ (0 : Int)) = true, decide (z ≥ (0 : Int)) = true, decide (z ≥ (0 : Int)) = true]) := by kernel_rfl

set_option maxRecDepth 100000 in
theorem pair_ok (z : Int) : outXS noneKnown [(129, { op := [(1, 5, .br true)], gd := [(1, 3, true), (1, 4, true)] })] Try.prog 129 [AV.val (Value.int IntKind.i64 z)] [] 0 [] [] = some (AV.val (Value.bool (decide (z ≤ (65535 : Int)))), [], 8, [decide (z ≥ (0 : Int)) = true, decide (z ≥ (0 : Int)) = true, decide (z ≥ (0 : Int)) = true]) := by kernel_rfl

set_option maxRecDepth 100000 in
theorem gdm_id (id : Int) (fl : Int) (qs : List DQ) (a : List DR) (o : List DR) (m : List DR) : outXS kDg [(96, { op := [(1, 9, .br true)], gd := [(1, 5, true), (1, 6, true), (1, 7, true), (1, 8, true)] })] Try.prog 96 [AV.agg [AV.val (Value.int IntKind.i64 id), AV.val (Value.int IntKind.i64 fl), vQ qs, vR a, vR o, vR m]] [] 0 [] [] = some (AV.val (Value.bool false), [], 31, [(!pairB id) = true, (!pairB id) = true, (!pairB id) = true, (!pairB id) = true, (!pairB id) = true]) := by kernel_rfl

set_option maxRecDepth 100000 in
theorem gdm_fl (id : Int) (fl : Int) (qs : List DQ) (a : List DR) (o : List DR) (m : List DR) : outXS kDg [(96, { op := [(1, 9, .br false), (1, 27, .br true)], gd := [(1, 5, false), (1, 6, false), (1, 7, false), (1, 8, false), (1, 11, true), (1, 12, true), (1, 13, true), (1, 14, true), (1, 15, true), (1, 16, true), (1, 17, true), (1, 18, true), (1, 19, true), (1, 20, true), (1, 21, true), (1, 22, true), (1, 23, true), (1, 24, true), (1, 25, true), (1, 26, true)] })] Try.prog 96 [AV.agg [AV.val (Value.int IntKind.i64 id), AV.val (Value.int IntKind.i64 fl), vQ qs, vR a, vR o, vR m]] [] 0 [] [] = some (AV.val (Value.bool false), [], 31, [(!pairB id) = false, (!pairB id) = false, (!pairB id) = false, (!pairB id) = false, (!pairB id) = false, (!pairB fl) = true, (!pairB fl) = true, (!pairB fl) = true, (!pairB fl) = true, (!pairB fl) = true, (!pairB fl) = true, (!pairB fl) = true, (!pairB fl) = true, (!pairB fl) = true, (!pairB fl) = true, (!pairB fl) = true, (!pairB fl) = true, (!pairB fl) = true, (!pairB fl) = true, (!pairB fl) = true, (!pairB fl) = true, (!pairB fl) = true]) := by kernel_rfl

set_option maxRecDepth 100000 in
theorem gdm_many (id : Int) (fl : Int) (qs : List DQ) (a : List DR) (o : List DR) (m : List DR) : outXS kDg [(96, { op := [(1, 9, .br false), (1, 27, .br false)], gd := [(1, 5, false), (1, 6, false), (1, 7, false), (1, 8, false), (1, 11, false), (1, 12, false), (1, 13, false), (1, 14, false), (1, 15, false), (1, 16, false), (1, 17, false), (1, 18, false), (1, 19, false), (1, 20, false), (1, 21, false), (1, 22, false), (1, 23, false), (1, 24, false), (1, 25, false), (1, 26, false)], br := [(36, true)] })] Try.prog 96 [AV.agg [AV.val (Value.int IntKind.i64 id), AV.val (Value.int IntKind.i64 fl), vQ qs, vR a, vR o, vR m]] [] 0 [] [] = some (AV.val (Value.bool false), [], 31, [(!pairB id) = false, (!pairB id) = false, (!pairB id) = false, (!pairB id) = false, (!pairB id) = false, (!pairB fl) = false, (!pairB fl) = false, (!pairB fl) = false, (!pairB fl) = false, (!pairB fl) = false, (!pairB fl) = false, (!pairB fl) = false, (!pairB fl) = false, (!pairB fl) = false, (!pairB fl) = false, (!pairB fl) = false, (!pairB fl) = false, (!pairB fl) = false, (!pairB fl) = false, (!pairB fl) = false, (!pairB fl) = false, (!pairB fl) = false, decide (IntKind.wrap IntKind.i64 (IntKind.wrap IntKind.i64 (IntKind.wrap IntKind.i64 ((↑(List.length qs) : Int) + (↑(List.length a) : Int)) + (↑(List.length o) : Int)) + (↑(List.length m) : Int)) > (64 : Int)) = true]) := by kernel_rfl

set_option maxRecDepth 100000 in
theorem gdm_q (id : Int) (fl : Int) (qs : List DQ) (a : List DR) (o : List DR) (m : List DR) : outXS kDg [(96, { op := [(1, 9, .br false), (1, 27, .br false)], gd := [(1, 5, false), (1, 6, false), (1, 7, false), (1, 8, false), (1, 11, false), (1, 12, false), (1, 13, false), (1, 14, false), (1, 15, false), (1, 16, false), (1, 17, false), (1, 18, false), (1, 19, false), (1, 20, false), (1, 21, false), (1, 22, false), (1, 23, false), (1, 24, false), (1, 25, false), (1, 26, false)], br := [(36, false)] })] Try.prog 96 [AV.agg [AV.val (Value.int IntKind.i64 id), AV.val (Value.int IntKind.i64 fl), vQ qs, vR a, vR o, vR m]] [] 0 [] [(4, gqL id fl qs a o m Ex.ret gdN2)] = some (AV.val (Value.bool false), [], 0, [(!pairB id) = false, (!pairB id) = false, (!pairB id) = false, (!pairB id) = false, (!pairB id) = false, (!pairB fl) = false, (!pairB fl) = false, (!pairB fl) = false, (!pairB fl) = false, (!pairB fl) = false, (!pairB fl) = false, (!pairB fl) = false, (!pairB fl) = false, (!pairB fl) = false, (!pairB fl) = false, (!pairB fl) = false, (!pairB fl) = false, (!pairB fl) = false, (!pairB fl) = false, (!pairB fl) = false, (!pairB fl) = false, (!pairB fl) = false, decide (IntKind.wrap IntKind.i64 (IntKind.wrap IntKind.i64 (IntKind.wrap IntKind.i64 ((↑(List.length qs) : Int) + (↑(List.length a) : Int)) + (↑(List.length o) : Int)) + (↑(List.length m) : Int)) > (64 : Int)) = false, (vQ qs) = vQ qs, AV.val (Value.int IntKind.i64 (↑(List.length qs) : Int)) = AV.val (Value.int IntKind.i64 (↑(List.length qs) : Int)), AV.val (Value.int IntKind.i64 (0 : Int)) = AV.val (Value.int IntKind.i64 (0 : Int)), SameO (some { t := 36, sz := 6, exact := true, fz := false, body := Body.rows [[AV.val (Value.int IntKind.i64 id), AV.val (Value.int IntKind.i64 fl), vQ qs, vR a, vR o, vR m]] }) { t := 36, sz := 6, exact := true, fz := false, body := Body.rows [[AV.val (Value.int IntKind.i64 id), AV.val (Value.int IntKind.i64 fl), vQ qs, vR a, vR o, vR m]] }, EvXL Try.prog 0 (loopAt Try.prog 96 4) (GoalX.st (LoopX.G (gqL id fl qs a o m Ex.ret gdN2)) 0) (LoopX.ex (gqL id fl qs a o m Ex.ret gdN2)) (GoalX.st (LoopX.E (gqL id fl qs a o m Ex.ret gdN2)) 0)]) := by kernel_rfl

set_option maxRecDepth 100000 in
theorem gdm_r (id : Int) (fl : Int) (qs : List DQ) (a : List DR) (o : List DR) (m : List DR) : outXS kDg [(96, { op := [(1, 9, .br false), (1, 27, .br false)], gd := [(1, 5, false), (1, 6, false), (1, 7, false), (1, 8, false), (1, 11, false), (1, 12, false), (1, 13, false), (1, 14, false), (1, 15, false), (1, 16, false), (1, 17, false), (1, 18, false), (1, 19, false), (1, 20, false), (1, 21, false), (1, 22, false), (1, 23, false), (1, 24, false), (1, 25, false), (1, 26, false)], br := [(36, false)] })] Try.prog 96 [AV.agg [AV.val (Value.int IntKind.i64 id), AV.val (Value.int IntKind.i64 fl), vQ qs, vR a, vR o, vR m]] [] 0 [] [(4, gqL id fl qs a o m (Ex.exit 0) (gqE id fl qs a o m)), (10, glL a o m Ex.ret gdN2)] = some (AV.val (Value.bool false), [], 0, [(!pairB id) = false, (!pairB id) = false, (!pairB id) = false, (!pairB id) = false, (!pairB id) = false, (!pairB fl) = false, (!pairB fl) = false, (!pairB fl) = false, (!pairB fl) = false, (!pairB fl) = false, (!pairB fl) = false, (!pairB fl) = false, (!pairB fl) = false, (!pairB fl) = false, (!pairB fl) = false, (!pairB fl) = false, (!pairB fl) = false, (!pairB fl) = false, (!pairB fl) = false, (!pairB fl) = false, (!pairB fl) = false, (!pairB fl) = false, decide (IntKind.wrap IntKind.i64 (IntKind.wrap IntKind.i64 (IntKind.wrap IntKind.i64 ((↑(List.length qs) : Int) + (↑(List.length a) : Int)) + (↑(List.length o) : Int)) + (↑(List.length m) : Int)) > (64 : Int)) = false, (vQ qs) = vQ qs, AV.val (Value.int IntKind.i64 (↑(List.length qs) : Int)) = AV.val (Value.int IntKind.i64 (↑(List.length qs) : Int)), AV.val (Value.int IntKind.i64 (0 : Int)) = AV.val (Value.int IntKind.i64 (0 : Int)), SameO (some { t := 36, sz := 6, exact := true, fz := false, body := Body.rows [[AV.val (Value.int IntKind.i64 id), AV.val (Value.int IntKind.i64 fl), vQ qs, vR a, vR o, vR m]] }) { t := 36, sz := 6, exact := true, fz := false, body := Body.rows [[AV.val (Value.int IntKind.i64 id), AV.val (Value.int IntKind.i64 fl), vQ qs, vR a, vR o, vR m]] }, EvXL Try.prog 0 (loopAt Try.prog 96 4) (GoalX.st (LoopX.G (gqL id fl qs a o m (Ex.exit 0) (gqE id fl qs a o m))) 0) (LoopX.ex (gqL id fl qs a o m (Ex.exit 0) (gqE id fl qs a o m))) (GoalX.st (LoopX.E (gqL id fl qs a o m (Ex.exit 0) (gqE id fl qs a o m))) 0), AV.val (Value.int IntKind.i64 (0 : Int)) = AV.val (Value.int IntKind.i64 (0 : Int)), SameO (some { t := 34, sz := 1, exact := true, fz := false, body := Body.rows [[vR a], [vR o], [vR m]] }) { t := 34, sz := 1, exact := true, fz := false, body := Body.rows [[vR a], [vR o], [vR m]] }, EvXL Try.prog 0 (loopAt Try.prog 96 10) (GoalX.st (LoopX.G (glL a o m Ex.ret gdN2)) 0) (LoopX.ex (glL a o m Ex.ret gdN2)) (GoalX.st (LoopX.E (glL a o m Ex.ret gdN2)) 0)]) := by kernel_rfl

set_option maxRecDepth 100000 in
theorem gdm_yes (id : Int) (fl : Int) (qs : List DQ) (a : List DR) (o : List DR) (m : List DR) : outXS kDg [(96, { op := [(1, 9, .br false), (1, 27, .br false)], gd := [(1, 5, false), (1, 6, false), (1, 7, false), (1, 8, false), (1, 11, false), (1, 12, false), (1, 13, false), (1, 14, false), (1, 15, false), (1, 16, false), (1, 17, false), (1, 18, false), (1, 19, false), (1, 20, false), (1, 21, false), (1, 22, false), (1, 23, false), (1, 24, false), (1, 25, false), (1, 26, false)], br := [(36, false)] })] Try.prog 96 [AV.agg [AV.val (Value.int IntKind.i64 id), AV.val (Value.int IntKind.i64 fl), vQ qs, vR a, vR o, vR m]] [] 0 [] [(4, gqL id fl qs a o m (Ex.exit 0) (gqE id fl qs a o m)), (10, glL a o m (Ex.exit 2) glE)] = some (AV.val (Value.bool true), [], 1, [(!pairB id) = false, (!pairB id) = false, (!pairB id) = false, (!pairB id) = false, (!pairB id) = false, (!pairB fl) = false, (!pairB fl) = false, (!pairB fl) = false, (!pairB fl) = false, (!pairB fl) = false, (!pairB fl) = false, (!pairB fl) = false, (!pairB fl) = false, (!pairB fl) = false, (!pairB fl) = false, (!pairB fl) = false, (!pairB fl) = false, (!pairB fl) = false, (!pairB fl) = false, (!pairB fl) = false, (!pairB fl) = false, (!pairB fl) = false, decide (IntKind.wrap IntKind.i64 (IntKind.wrap IntKind.i64 (IntKind.wrap IntKind.i64 ((↑(List.length qs) : Int) + (↑(List.length a) : Int)) + (↑(List.length o) : Int)) + (↑(List.length m) : Int)) > (64 : Int)) = false, (vQ qs) = vQ qs, AV.val (Value.int IntKind.i64 (↑(List.length qs) : Int)) = AV.val (Value.int IntKind.i64 (↑(List.length qs) : Int)), AV.val (Value.int IntKind.i64 (0 : Int)) = AV.val (Value.int IntKind.i64 (0 : Int)), SameO (some { t := 36, sz := 6, exact := true, fz := false, body := Body.rows [[AV.val (Value.int IntKind.i64 id), AV.val (Value.int IntKind.i64 fl), vQ qs, vR a, vR o, vR m]] }) { t := 36, sz := 6, exact := true, fz := false, body := Body.rows [[AV.val (Value.int IntKind.i64 id), AV.val (Value.int IntKind.i64 fl), vQ qs, vR a, vR o, vR m]] }, EvXL Try.prog 0 (loopAt Try.prog 96 4) (GoalX.st (LoopX.G (gqL id fl qs a o m (Ex.exit 0) (gqE id fl qs a o m))) 0) (LoopX.ex (gqL id fl qs a o m (Ex.exit 0) (gqE id fl qs a o m))) (GoalX.st (LoopX.E (gqL id fl qs a o m (Ex.exit 0) (gqE id fl qs a o m))) 0), AV.val (Value.int IntKind.i64 (0 : Int)) = AV.val (Value.int IntKind.i64 (0 : Int)), SameO (some { t := 34, sz := 1, exact := true, fz := false, body := Body.rows [[vR a], [vR o], [vR m]] }) { t := 34, sz := 1, exact := true, fz := false, body := Body.rows [[vR a], [vR o], [vR m]] }, EvXL Try.prog 0 (loopAt Try.prog 96 10) (GoalX.st (LoopX.G (glL a o m (Ex.exit 2) glE)) 0) (LoopX.ex (glL a o m (Ex.exit 2) glE)) (GoalX.st (LoopX.E (glL a o m (Ex.exit 2) glE)) 0)]) := by kernel_rfl

set_option maxRecDepth 100000 in
theorem gq_step (id : Int) (fl : Int) (qs : List DQ) (a : List DR) (o : List DR) (m : List DR) (i : Nat) : stepXS kDg [(96, { op := [(6, 9, .br false), (6, 15, .br false)], gd := [(6, 5, false), (6, 6, false), (6, 7, false), (6, 8, false), (6, 11, false), (6, 12, false), (6, 13, false), (6, 14, false)], br := [(41, true), (59, false)], ob := [(5, 0)] })] Try.prog 96 4 (gqG id fl qs a o m i) (gqG id fl qs a o m (i + 1)) [0] 0 [] = some (.normal, [decide ((↑i : Int) < (↑(List.length qs) : Int)) = true, (0 : Int) ≤ (↑i : Int) ∧ (↑i : Int) < (↑(List.length qs) : Int), (!pairB (List.getD qs (Int.toNat (↑i : Int)) dq0).2) = false, (!pairB (List.getD qs (Int.toNat (↑i : Int)) dq0).2) = false, (!pairB (List.getD qs (Int.toNat (↑i : Int)) dq0).2) = false, (!pairB (List.getD qs (Int.toNat (↑i : Int)) dq0).2) = false, (!pairB (List.getD qs (Int.toNat (↑i : Int)) dq0).2) = false, (!pairB (List.getD qs (Int.toNat (↑i : Int)) dq0).3) = false, (!pairB (List.getD qs (Int.toNat (↑i : Int)) dq0).3) = false, (!pairB (List.getD qs (Int.toNat (↑i : Int)) dq0).3) = false, (AV.view 1 (List.length (List.getD qs (Int.toNat (↑i : Int)) dq0).1) fun i_1 => [AV.val (Value.string { data := List.toArray (List.getD (List.getD qs (Int.toNat (↑i : Int)) dq0).1 i_1 []) })]) = AV.view 1 (List.length (lsOf (AV.view 1 (List.length (List.getD qs (Int.toNat (↑i : Int)) dq0).1) fun i_1 => [AV.val (Value.string { data := List.toArray (List.getD (List.getD qs (Int.toNat (↑i : Int)) dq0).1 i_1 []) })]))) fun i_1 => [AV.val (Value.string { data := List.toArray (List.getD (lsOf (AV.view 1 (List.length (List.getD qs (Int.toNat (↑i : Int)) dq0).1) fun i_2 => [AV.val (Value.string { data := List.toArray (List.getD (List.getD qs (Int.toNat (↑i : Int)) dq0).1 i_2 []) })])) i_1 []) })], lsK (lsOf (AV.view 1 (List.length (List.getD qs (Int.toNat (↑i : Int)) dq0).1) fun i_1 => [AV.val (Value.string { data := List.toArray (List.getD (List.getD qs (Int.toNat (↑i : Int)) dq0).1 i_1 []) })])), (!pairB (List.getD qs (Int.toNat (↑i : Int)) dq0).3) = false, (!pairB (List.getD qs (Int.toNat (↑i : Int)) dq0).3) = false, (!goodN (lsOf (AV.view 1 (List.length (List.getD qs (Int.toNat (↑i : Int)) dq0).1) fun i_1 => [AV.val (Value.string { data := List.toArray (List.getD (List.getD qs (Int.toNat (↑i : Int)) dq0).1 i_1 []) })]))) = false, (vQ qs) = vQ qs, AV.val (Value.int IntKind.i64 (↑(List.length qs) : Int)) = AV.val (Value.int IntKind.i64 (↑(List.length qs) : Int)), AV.val (Value.int IntKind.i64 (IntKind.wrap IntKind.i64 ((↑i : Int) + (1 : Int)))) = AV.val (Value.int IntKind.i64 (↑(i + 1) : Int)), SameO (some { t := 36, sz := 6, exact := true, fz := false, body := Body.rows [[AV.val (Value.int IntKind.i64 id), AV.val (Value.int IntKind.i64 fl), vQ qs, vR a, vR o, vR m]] }) { t := 36, sz := 6, exact := true, fz := false, body := Body.rows [[AV.val (Value.int IntKind.i64 id), AV.val (Value.int IntKind.i64 fl), vQ qs, vR a, vR o, vR m]] }]) := by kernel_rfl

set_option maxRecDepth 100000 in
theorem gq_b1 (id : Int) (fl : Int) (qs : List DQ) (a : List DR) (o : List DR) (m : List DR) (i : Nat) : stepXS kDg [(96, { op := [(6, 9, .br true)], gd := [(6, 5, true), (6, 6, true), (6, 7, true), (6, 8, true)], br := [(41, true)], ob := [(5, 0)] })] Try.prog 96 4 (gqG id fl qs a o m i) (gdN2) [] 0 [] = some (.ret, [decide ((↑i : Int) < (↑(List.length qs) : Int)) = true, (0 : Int) ≤ (↑i : Int) ∧ (↑i : Int) < (↑(List.length qs) : Int), (!pairB (List.getD qs (Int.toNat (↑i : Int)) dq0).2) = true, (!pairB (List.getD qs (Int.toNat (↑i : Int)) dq0).2) = true, (!pairB (List.getD qs (Int.toNat (↑i : Int)) dq0).2) = true, (!pairB (List.getD qs (Int.toNat (↑i : Int)) dq0).2) = true, (!pairB (List.getD qs (Int.toNat (↑i : Int)) dq0).2) = true]) := by kernel_rfl

set_option maxRecDepth 100000 in
theorem gq_b2 (id : Int) (fl : Int) (qs : List DQ) (a : List DR) (o : List DR) (m : List DR) (i : Nat) : stepXS kDg [(96, { op := [(6, 9, .br false), (6, 15, .br true)], gd := [(6, 5, false), (6, 6, false), (6, 7, false), (6, 8, false), (6, 11, true), (6, 12, true), (6, 13, true), (6, 14, true)], br := [(41, true)], ob := [(5, 0)] })] Try.prog 96 4 (gqG id fl qs a o m i) (gdN2) [] 0 [] = some (.ret, [decide ((↑i : Int) < (↑(List.length qs) : Int)) = true, (0 : Int) ≤ (↑i : Int) ∧ (↑i : Int) < (↑(List.length qs) : Int), (!pairB (List.getD qs (Int.toNat (↑i : Int)) dq0).2) = false, (!pairB (List.getD qs (Int.toNat (↑i : Int)) dq0).2) = false, (!pairB (List.getD qs (Int.toNat (↑i : Int)) dq0).2) = false, (!pairB (List.getD qs (Int.toNat (↑i : Int)) dq0).2) = false, (!pairB (List.getD qs (Int.toNat (↑i : Int)) dq0).2) = false, (!pairB (List.getD qs (Int.toNat (↑i : Int)) dq0).3) = true, (!pairB (List.getD qs (Int.toNat (↑i : Int)) dq0).3) = true, (!pairB (List.getD qs (Int.toNat (↑i : Int)) dq0).3) = true, (!pairB (List.getD qs (Int.toNat (↑i : Int)) dq0).3) = true, (!pairB (List.getD qs (Int.toNat (↑i : Int)) dq0).3) = true]) := by kernel_rfl

set_option maxRecDepth 100000 in
theorem gq_b3 (id : Int) (fl : Int) (qs : List DQ) (a : List DR) (o : List DR) (m : List DR) (i : Nat) : stepXS kDg [(96, { op := [(6, 9, .br false), (6, 15, .br false)], gd := [(6, 5, false), (6, 6, false), (6, 7, false), (6, 8, false), (6, 11, false), (6, 12, false), (6, 13, false), (6, 14, false)], br := [(41, true), (59, true)], ob := [(5, 0)] })] Try.prog 96 4 (gqG id fl qs a o m i) (gdN2) [] 0 [] = some (.ret, [decide ((↑i : Int) < (↑(List.length qs) : Int)) = true, (0 : Int) ≤ (↑i : Int) ∧ (↑i : Int) < (↑(List.length qs) : Int), (!pairB (List.getD qs (Int.toNat (↑i : Int)) dq0).2) = false, (!pairB (List.getD qs (Int.toNat (↑i : Int)) dq0).2) = false, (!pairB (List.getD qs (Int.toNat (↑i : Int)) dq0).2) = false, (!pairB (List.getD qs (Int.toNat (↑i : Int)) dq0).2) = false, (!pairB (List.getD qs (Int.toNat (↑i : Int)) dq0).2) = false, (!pairB (List.getD qs (Int.toNat (↑i : Int)) dq0).3) = false, (!pairB (List.getD qs (Int.toNat (↑i : Int)) dq0).3) = false, (!pairB (List.getD qs (Int.toNat (↑i : Int)) dq0).3) = false, (AV.view 1 (List.length (List.getD qs (Int.toNat (↑i : Int)) dq0).1) fun i_1 => [AV.val (Value.string { data := List.toArray (List.getD (List.getD qs (Int.toNat (↑i : Int)) dq0).1 i_1 []) })]) = AV.view 1 (List.length (lsOf (AV.view 1 (List.length (List.getD qs (Int.toNat (↑i : Int)) dq0).1) fun i_1 => [AV.val (Value.string { data := List.toArray (List.getD (List.getD qs (Int.toNat (↑i : Int)) dq0).1 i_1 []) })]))) fun i_1 => [AV.val (Value.string { data := List.toArray (List.getD (lsOf (AV.view 1 (List.length (List.getD qs (Int.toNat (↑i : Int)) dq0).1) fun i_2 => [AV.val (Value.string { data := List.toArray (List.getD (List.getD qs (Int.toNat (↑i : Int)) dq0).1 i_2 []) })])) i_1 []) })], lsK (lsOf (AV.view 1 (List.length (List.getD qs (Int.toNat (↑i : Int)) dq0).1) fun i_1 => [AV.val (Value.string { data := List.toArray (List.getD (List.getD qs (Int.toNat (↑i : Int)) dq0).1 i_1 []) })])), (!pairB (List.getD qs (Int.toNat (↑i : Int)) dq0).3) = false, (!pairB (List.getD qs (Int.toNat (↑i : Int)) dq0).3) = false, (!goodN (lsOf (AV.view 1 (List.length (List.getD qs (Int.toNat (↑i : Int)) dq0).1) fun i_1 => [AV.val (Value.string { data := List.toArray (List.getD (List.getD qs (Int.toNat (↑i : Int)) dq0).1 i_1 []) })]))) = true]) := by kernel_rfl

set_option maxRecDepth 100000 in
theorem gq_end (id : Int) (fl : Int) (qs : List DQ) (a : List DR) (o : List DR) (m : List DR) (i : Nat) : stepXS kDg [(96, { br := [(41, false)] })] Try.prog 96 4 (gqG id fl qs a o m i) (gqE id fl qs a o m) [0] 0 [] = some (.exit 0, [decide ((↑i : Int) < (↑(List.length qs) : Int)) = false, SameO (some { t := 36, sz := 6, exact := true, fz := false, body := Body.rows [[AV.val (Value.int IntKind.i64 id), AV.val (Value.int IntKind.i64 fl), vQ qs, vR a, vR o, vR m]] }) { t := 36, sz := 6, exact := true, fz := false, body := Body.rows [[AV.val (Value.int IntKind.i64 id), AV.val (Value.int IntKind.i64 fl), vQ qs, vR a, vR o, vR m]] }]) := by kernel_rfl

set_option maxRecDepth 100000 in
theorem gl_step0 (a : List DR) (o : List DR) (m : List DR) : stepXS kDg [] Try.prog 96 10 (glG a o m 0) (glG a o m 1) [0] 0 [(13, giL a o m 0 a (Ex.exit 4) (glG a o m 0))] = some (.normal, [AV.val (Value.int IntKind.i64 (0 : Int)) = AV.val (Value.int IntKind.i64 (0 : Int)), (vR a) = vR a, AV.val (Value.int IntKind.i64 (↑(List.length a) : Int)) = AV.val (Value.int IntKind.i64 (↑(List.length a) : Int)), AV.val (Value.int IntKind.i64 (0 : Int)) = AV.val (Value.int IntKind.i64 (0 : Int)), SameO (some { t := 34, sz := 1, exact := true, fz := false, body := Body.rows [[vR a], [vR o], [vR m]] }) { t := 34, sz := 1, exact := true, fz := false, body := Body.rows [[vR a], [vR o], [vR m]] }, EvXL Try.prog 0 (loopAt Try.prog 96 13) (GoalX.st (LoopX.G (giL a o m 0 a (Ex.exit 4) (glG a o m 0))) 0) (LoopX.ex (giL a o m 0 a (Ex.exit 4) (glG a o m 0))) (GoalX.st (LoopX.E (giL a o m 0 a (Ex.exit 4) (glG a o m 0))) 0), AV.val (Value.int IntKind.i64 (1 : Int)) = AV.val (Value.int IntKind.i64 (1 : Int)), SameO (some { t := 34, sz := 1, exact := true, fz := false, body := Body.rows [[vR a], [vR o], [vR m]] }) { t := 34, sz := 1, exact := true, fz := false, body := Body.rows [[vR a], [vR o], [vR m]] }]) := by kernel_rfl

set_option maxRecDepth 100000 in
theorem gl_b0 (a : List DR) (o : List DR) (m : List DR) : stepXS kDg [] Try.prog 96 10 (glG a o m 0) (gdN2) [] 0 [(13, giL a o m 0 a Ex.ret gdN2)] = some (.ret, [AV.val (Value.int IntKind.i64 (0 : Int)) = AV.val (Value.int IntKind.i64 (0 : Int)), (vR a) = vR a, AV.val (Value.int IntKind.i64 (↑(List.length a) : Int)) = AV.val (Value.int IntKind.i64 (↑(List.length a) : Int)), AV.val (Value.int IntKind.i64 (0 : Int)) = AV.val (Value.int IntKind.i64 (0 : Int)), SameO (some { t := 34, sz := 1, exact := true, fz := false, body := Body.rows [[vR a], [vR o], [vR m]] }) { t := 34, sz := 1, exact := true, fz := false, body := Body.rows [[vR a], [vR o], [vR m]] }, EvXL Try.prog 0 (loopAt Try.prog 96 13) (GoalX.st (LoopX.G (giL a o m 0 a Ex.ret gdN2)) 0) (LoopX.ex (giL a o m 0 a Ex.ret gdN2)) (GoalX.st (LoopX.E (giL a o m 0 a Ex.ret gdN2)) 0)]) := by kernel_rfl

set_option maxRecDepth 100000 in
theorem gl_step1 (a : List DR) (o : List DR) (m : List DR) : stepXS kDg [] Try.prog 96 10 (glG a o m 1) (glG a o m 2) [0] 0 [(13, giL a o m 1 o (Ex.exit 4) (glG a o m 1))] = some (.normal, [AV.val (Value.int IntKind.i64 (1 : Int)) = AV.val (Value.int IntKind.i64 (1 : Int)), (vR o) = vR o, AV.val (Value.int IntKind.i64 (↑(List.length o) : Int)) = AV.val (Value.int IntKind.i64 (↑(List.length o) : Int)), AV.val (Value.int IntKind.i64 (0 : Int)) = AV.val (Value.int IntKind.i64 (0 : Int)), SameO (some { t := 34, sz := 1, exact := true, fz := false, body := Body.rows [[vR a], [vR o], [vR m]] }) { t := 34, sz := 1, exact := true, fz := false, body := Body.rows [[vR a], [vR o], [vR m]] }, EvXL Try.prog 0 (loopAt Try.prog 96 13) (GoalX.st (LoopX.G (giL a o m 1 o (Ex.exit 4) (glG a o m 1))) 0) (LoopX.ex (giL a o m 1 o (Ex.exit 4) (glG a o m 1))) (GoalX.st (LoopX.E (giL a o m 1 o (Ex.exit 4) (glG a o m 1))) 0), AV.val (Value.int IntKind.i64 (2 : Int)) = AV.val (Value.int IntKind.i64 (2 : Int)), SameO (some { t := 34, sz := 1, exact := true, fz := false, body := Body.rows [[vR a], [vR o], [vR m]] }) { t := 34, sz := 1, exact := true, fz := false, body := Body.rows [[vR a], [vR o], [vR m]] }]) := by kernel_rfl

set_option maxRecDepth 100000 in
theorem gl_b1 (a : List DR) (o : List DR) (m : List DR) : stepXS kDg [] Try.prog 96 10 (glG a o m 1) (gdN2) [] 0 [(13, giL a o m 1 o Ex.ret gdN2)] = some (.ret, [AV.val (Value.int IntKind.i64 (1 : Int)) = AV.val (Value.int IntKind.i64 (1 : Int)), (vR o) = vR o, AV.val (Value.int IntKind.i64 (↑(List.length o) : Int)) = AV.val (Value.int IntKind.i64 (↑(List.length o) : Int)), AV.val (Value.int IntKind.i64 (0 : Int)) = AV.val (Value.int IntKind.i64 (0 : Int)), SameO (some { t := 34, sz := 1, exact := true, fz := false, body := Body.rows [[vR a], [vR o], [vR m]] }) { t := 34, sz := 1, exact := true, fz := false, body := Body.rows [[vR a], [vR o], [vR m]] }, EvXL Try.prog 0 (loopAt Try.prog 96 13) (GoalX.st (LoopX.G (giL a o m 1 o Ex.ret gdN2)) 0) (LoopX.ex (giL a o m 1 o Ex.ret gdN2)) (GoalX.st (LoopX.E (giL a o m 1 o Ex.ret gdN2)) 0)]) := by kernel_rfl

set_option maxRecDepth 100000 in
theorem gl_step2 (a : List DR) (o : List DR) (m : List DR) : stepXS kDg [] Try.prog 96 10 (glG a o m 2) (glG a o m 3) [0] 0 [(13, giL a o m 2 m (Ex.exit 4) (glG a o m 2))] = some (.normal, [AV.val (Value.int IntKind.i64 (2 : Int)) = AV.val (Value.int IntKind.i64 (2 : Int)), (vR m) = vR m, AV.val (Value.int IntKind.i64 (↑(List.length m) : Int)) = AV.val (Value.int IntKind.i64 (↑(List.length m) : Int)), AV.val (Value.int IntKind.i64 (0 : Int)) = AV.val (Value.int IntKind.i64 (0 : Int)), SameO (some { t := 34, sz := 1, exact := true, fz := false, body := Body.rows [[vR a], [vR o], [vR m]] }) { t := 34, sz := 1, exact := true, fz := false, body := Body.rows [[vR a], [vR o], [vR m]] }, EvXL Try.prog 0 (loopAt Try.prog 96 13) (GoalX.st (LoopX.G (giL a o m 2 m (Ex.exit 4) (glG a o m 2))) 0) (LoopX.ex (giL a o m 2 m (Ex.exit 4) (glG a o m 2))) (GoalX.st (LoopX.E (giL a o m 2 m (Ex.exit 4) (glG a o m 2))) 0), AV.val (Value.int IntKind.i64 (3 : Int)) = AV.val (Value.int IntKind.i64 (3 : Int)), SameO (some { t := 34, sz := 1, exact := true, fz := false, body := Body.rows [[vR a], [vR o], [vR m]] }) { t := 34, sz := 1, exact := true, fz := false, body := Body.rows [[vR a], [vR o], [vR m]] }]) := by kernel_rfl

set_option maxRecDepth 100000 in
theorem gl_b2 (a : List DR) (o : List DR) (m : List DR) : stepXS kDg [] Try.prog 96 10 (glG a o m 2) (gdN2) [] 0 [(13, giL a o m 2 m Ex.ret gdN2)] = some (.ret, [AV.val (Value.int IntKind.i64 (2 : Int)) = AV.val (Value.int IntKind.i64 (2 : Int)), (vR m) = vR m, AV.val (Value.int IntKind.i64 (↑(List.length m) : Int)) = AV.val (Value.int IntKind.i64 (↑(List.length m) : Int)), AV.val (Value.int IntKind.i64 (0 : Int)) = AV.val (Value.int IntKind.i64 (0 : Int)), SameO (some { t := 34, sz := 1, exact := true, fz := false, body := Body.rows [[vR a], [vR o], [vR m]] }) { t := 34, sz := 1, exact := true, fz := false, body := Body.rows [[vR a], [vR o], [vR m]] }, EvXL Try.prog 0 (loopAt Try.prog 96 13) (GoalX.st (LoopX.G (giL a o m 2 m Ex.ret gdN2)) 0) (LoopX.ex (giL a o m 2 m Ex.ret gdN2)) (GoalX.st (LoopX.E (giL a o m 2 m Ex.ret gdN2)) 0)]) := by kernel_rfl

set_option maxRecDepth 100000 in
theorem gl_end (a : List DR) (o : List DR) (m : List DR) : stepXS kDg [] Try.prog 96 10 (glG a o m 3) (glE) [] 0 [] = some (.exit 2, []) := by kernel_rfl

set_option maxRecDepth 100000 in
theorem gi_step (a : List DR) (o : List DR) (m : List DR) (j : Nat) (rs : List DR) (i : Nat) : stepXS kDg [(96, { op := [(15, 9, .br false), (15, 15, .br false), (15, 21, .br false)], gd := [(15, 5, false), (15, 6, false), (15, 7, false), (15, 8, false), (15, 11, false), (15, 12, false), (15, 13, false), (15, 14, false), (15, 17, false), (15, 18, false), (15, 19, false), (15, 20, false)], br := [(76, true), (100, false)], ob := [(14, 0)] })] Try.prog 96 13 (giG a o m j rs i) (giG a o m j rs (i + 1)) [0] 0 [] = some (.normal, [decide ((↑i : Int) < (↑(List.length rs) : Int)) = true, (0 : Int) ≤ (↑i : Int) ∧ (↑i : Int) < (↑(List.length rs) : Int), (!pairB (List.getD rs (Int.toNat (↑i : Int)) dr0).2) = false, (!pairB (List.getD rs (Int.toNat (↑i : Int)) dr0).2) = false, (!pairB (List.getD rs (Int.toNat (↑i : Int)) dr0).2) = false, (!pairB (List.getD rs (Int.toNat (↑i : Int)) dr0).2) = false, (!pairB (List.getD rs (Int.toNat (↑i : Int)) dr0).2) = false, (!pairB (List.getD rs (Int.toNat (↑i : Int)) dr0).3) = false, (!pairB (List.getD rs (Int.toNat (↑i : Int)) dr0).3) = false, (!pairB (List.getD rs (Int.toNat (↑i : Int)) dr0).3) = false, (AV.view 1 (List.length (List.getD rs (Int.toNat (↑i : Int)) dr0).1) fun i_1 => [AV.val (Value.string { data := List.toArray (List.getD (List.getD rs (Int.toNat (↑i : Int)) dr0).1 i_1 []) })]) = AV.view 1 (List.length (lsOf (AV.view 1 (List.length (List.getD rs (Int.toNat (↑i : Int)) dr0).1) fun i_1 => [AV.val (Value.string { data := List.toArray (List.getD (List.getD rs (Int.toNat (↑i : Int)) dr0).1 i_1 []) })]))) fun i_1 => [AV.val (Value.string { data := List.toArray (List.getD (lsOf (AV.view 1 (List.length (List.getD rs (Int.toNat (↑i : Int)) dr0).1) fun i_2 => [AV.val (Value.string { data := List.toArray (List.getD (List.getD rs (Int.toNat (↑i : Int)) dr0).1 i_2 []) })])) i_1 []) })], lsK (lsOf (AV.view 1 (List.length (List.getD rs (Int.toNat (↑i : Int)) dr0).1) fun i_1 => [AV.val (Value.string { data := List.toArray (List.getD (List.getD rs (Int.toNat (↑i : Int)) dr0).1 i_1 []) })])), (!pairB (List.getD rs (Int.toNat (↑i : Int)) dr0).3) = false, (!pairB (List.getD rs (Int.toNat (↑i : Int)) dr0).3) = false, (!goodN (lsOf (AV.view 1 (List.length (List.getD rs (Int.toNat (↑i : Int)) dr0).1) fun i_1 => [AV.val (Value.string { data := List.toArray (List.getD (List.getD rs (Int.toNat (↑i : Int)) dr0).1 i_1 []) })]))) = false, (!goodN (lsOf (AV.view 1 (List.length (List.getD rs (Int.toNat (↑i : Int)) dr0).1) fun i_1 => [AV.val (Value.string { data := List.toArray (List.getD (List.getD rs (Int.toNat (↑i : Int)) dr0).1 i_1 []) })]))) = false, (!goodN (lsOf (AV.view 1 (List.length (List.getD rs (Int.toNat (↑i : Int)) dr0).1) fun i_1 => [AV.val (Value.string { data := List.toArray (List.getD (List.getD rs (Int.toNat (↑i : Int)) dr0).1 i_1 []) })]))) = false, (!goodN (lsOf (AV.view 1 (List.length (List.getD rs (Int.toNat (↑i : Int)) dr0).1) fun i_1 => [AV.val (Value.string { data := List.toArray (List.getD (List.getD rs (Int.toNat (↑i : Int)) dr0).1 i_1 []) })]))) = false, (!goodN (lsOf (AV.view 1 (List.length (List.getD rs (Int.toNat (↑i : Int)) dr0).1) fun i_1 => [AV.val (Value.string { data := List.toArray (List.getD (List.getD rs (Int.toNat (↑i : Int)) dr0).1 i_1 []) })]))) = false, decide ((↑(List.length (List.getD rs (Int.toNat (↑i : Int)) dr0).5) : Int) > (65535 : Int)) = false, AV.val (Value.int IntKind.i64 (↑j : Int)) = AV.val (Value.int IntKind.i64 (↑j : Int)), (vR rs) = vR rs, AV.val (Value.int IntKind.i64 (↑(List.length rs) : Int)) = AV.val (Value.int IntKind.i64 (↑(List.length rs) : Int)), AV.val (Value.int IntKind.i64 (IntKind.wrap IntKind.i64 ((↑i : Int) + (1 : Int)))) = AV.val (Value.int IntKind.i64 (↑(i + 1) : Int)), SameO (some { t := 34, sz := 1, exact := true, fz := false, body := Body.rows [[vR a], [vR o], [vR m]] }) { t := 34, sz := 1, exact := true, fz := false, body := Body.rows [[vR a], [vR o], [vR m]] }]) := by kernel_rfl

set_option maxRecDepth 100000 in
theorem gi_b1 (a : List DR) (o : List DR) (m : List DR) (j : Nat) (rs : List DR) (i : Nat) : stepXS kDg [(96, { op := [(15, 9, .br true)], gd := [(15, 5, true), (15, 6, true), (15, 7, true), (15, 8, true)], br := [(76, true)], ob := [(14, 0)] })] Try.prog 96 13 (giG a o m j rs i) (gdN2) [] 0 [] = some (.ret, [decide ((↑i : Int) < (↑(List.length rs) : Int)) = true, (0 : Int) ≤ (↑i : Int) ∧ (↑i : Int) < (↑(List.length rs) : Int), (!pairB (List.getD rs (Int.toNat (↑i : Int)) dr0).2) = true, (!pairB (List.getD rs (Int.toNat (↑i : Int)) dr0).2) = true, (!pairB (List.getD rs (Int.toNat (↑i : Int)) dr0).2) = true, (!pairB (List.getD rs (Int.toNat (↑i : Int)) dr0).2) = true, (!pairB (List.getD rs (Int.toNat (↑i : Int)) dr0).2) = true]) := by kernel_rfl

set_option maxRecDepth 100000 in
theorem gi_b2 (a : List DR) (o : List DR) (m : List DR) (j : Nat) (rs : List DR) (i : Nat) : stepXS kDg [(96, { op := [(15, 9, .br false), (15, 15, .br true)], gd := [(15, 5, false), (15, 6, false), (15, 7, false), (15, 8, false), (15, 11, true), (15, 12, true), (15, 13, true), (15, 14, true)], br := [(76, true)], ob := [(14, 0)] })] Try.prog 96 13 (giG a o m j rs i) (gdN2) [] 0 [] = some (.ret, [decide ((↑i : Int) < (↑(List.length rs) : Int)) = true, (0 : Int) ≤ (↑i : Int) ∧ (↑i : Int) < (↑(List.length rs) : Int), (!pairB (List.getD rs (Int.toNat (↑i : Int)) dr0).2) = false, (!pairB (List.getD rs (Int.toNat (↑i : Int)) dr0).2) = false, (!pairB (List.getD rs (Int.toNat (↑i : Int)) dr0).2) = false, (!pairB (List.getD rs (Int.toNat (↑i : Int)) dr0).2) = false, (!pairB (List.getD rs (Int.toNat (↑i : Int)) dr0).2) = false, (!pairB (List.getD rs (Int.toNat (↑i : Int)) dr0).3) = true, (!pairB (List.getD rs (Int.toNat (↑i : Int)) dr0).3) = true, (!pairB (List.getD rs (Int.toNat (↑i : Int)) dr0).3) = true, (!pairB (List.getD rs (Int.toNat (↑i : Int)) dr0).3) = true, (!pairB (List.getD rs (Int.toNat (↑i : Int)) dr0).3) = true]) := by kernel_rfl

set_option maxRecDepth 100000 in
theorem gi_b3 (a : List DR) (o : List DR) (m : List DR) (j : Nat) (rs : List DR) (i : Nat) : stepXS kDg [(96, { op := [(15, 9, .br false), (15, 15, .br false), (15, 21, .br true)], gd := [(15, 5, false), (15, 6, false), (15, 7, false), (15, 8, false), (15, 11, false), (15, 12, false), (15, 13, false), (15, 14, false), (15, 17, true), (15, 18, true), (15, 19, true), (15, 20, true)], br := [(76, true)], ob := [(14, 0)] })] Try.prog 96 13 (giG a o m j rs i) (gdN2) [] 0 [] = some (.ret, [decide ((↑i : Int) < (↑(List.length rs) : Int)) = true, (0 : Int) ≤ (↑i : Int) ∧ (↑i : Int) < (↑(List.length rs) : Int), (!pairB (List.getD rs (Int.toNat (↑i : Int)) dr0).2) = false, (!pairB (List.getD rs (Int.toNat (↑i : Int)) dr0).2) = false, (!pairB (List.getD rs (Int.toNat (↑i : Int)) dr0).2) = false, (!pairB (List.getD rs (Int.toNat (↑i : Int)) dr0).2) = false, (!pairB (List.getD rs (Int.toNat (↑i : Int)) dr0).2) = false, (!pairB (List.getD rs (Int.toNat (↑i : Int)) dr0).3) = false, (!pairB (List.getD rs (Int.toNat (↑i : Int)) dr0).3) = false, (!pairB (List.getD rs (Int.toNat (↑i : Int)) dr0).3) = false, (AV.view 1 (List.length (List.getD rs (Int.toNat (↑i : Int)) dr0).1) fun i_1 => [AV.val (Value.string { data := List.toArray (List.getD (List.getD rs (Int.toNat (↑i : Int)) dr0).1 i_1 []) })]) = AV.view 1 (List.length (lsOf (AV.view 1 (List.length (List.getD rs (Int.toNat (↑i : Int)) dr0).1) fun i_1 => [AV.val (Value.string { data := List.toArray (List.getD (List.getD rs (Int.toNat (↑i : Int)) dr0).1 i_1 []) })]))) fun i_1 => [AV.val (Value.string { data := List.toArray (List.getD (lsOf (AV.view 1 (List.length (List.getD rs (Int.toNat (↑i : Int)) dr0).1) fun i_2 => [AV.val (Value.string { data := List.toArray (List.getD (List.getD rs (Int.toNat (↑i : Int)) dr0).1 i_2 []) })])) i_1 []) })], lsK (lsOf (AV.view 1 (List.length (List.getD rs (Int.toNat (↑i : Int)) dr0).1) fun i_1 => [AV.val (Value.string { data := List.toArray (List.getD (List.getD rs (Int.toNat (↑i : Int)) dr0).1 i_1 []) })])), (!pairB (List.getD rs (Int.toNat (↑i : Int)) dr0).3) = false, (!pairB (List.getD rs (Int.toNat (↑i : Int)) dr0).3) = false, (!goodN (lsOf (AV.view 1 (List.length (List.getD rs (Int.toNat (↑i : Int)) dr0).1) fun i_1 => [AV.val (Value.string { data := List.toArray (List.getD (List.getD rs (Int.toNat (↑i : Int)) dr0).1 i_1 []) })]))) = true, (!goodN (lsOf (AV.view 1 (List.length (List.getD rs (Int.toNat (↑i : Int)) dr0).1) fun i_1 => [AV.val (Value.string { data := List.toArray (List.getD (List.getD rs (Int.toNat (↑i : Int)) dr0).1 i_1 []) })]))) = true, (!goodN (lsOf (AV.view 1 (List.length (List.getD rs (Int.toNat (↑i : Int)) dr0).1) fun i_1 => [AV.val (Value.string { data := List.toArray (List.getD (List.getD rs (Int.toNat (↑i : Int)) dr0).1 i_1 []) })]))) = true, (!goodN (lsOf (AV.view 1 (List.length (List.getD rs (Int.toNat (↑i : Int)) dr0).1) fun i_1 => [AV.val (Value.string { data := List.toArray (List.getD (List.getD rs (Int.toNat (↑i : Int)) dr0).1 i_1 []) })]))) = true, (!goodN (lsOf (AV.view 1 (List.length (List.getD rs (Int.toNat (↑i : Int)) dr0).1) fun i_1 => [AV.val (Value.string { data := List.toArray (List.getD (List.getD rs (Int.toNat (↑i : Int)) dr0).1 i_1 []) })]))) = true]) := by kernel_rfl

set_option maxRecDepth 100000 in
theorem gi_b4 (a : List DR) (o : List DR) (m : List DR) (j : Nat) (rs : List DR) (i : Nat) : stepXS kDg [(96, { op := [(15, 9, .br false), (15, 15, .br false), (15, 21, .br false)], gd := [(15, 5, false), (15, 6, false), (15, 7, false), (15, 8, false), (15, 11, false), (15, 12, false), (15, 13, false), (15, 14, false), (15, 17, false), (15, 18, false), (15, 19, false), (15, 20, false)], br := [(76, true), (100, true)], ob := [(14, 0)] })] Try.prog 96 13 (giG a o m j rs i) (gdN2) [] 0 [] = some (.ret, [decide ((↑i : Int) < (↑(List.length rs) : Int)) = true, (0 : Int) ≤ (↑i : Int) ∧ (↑i : Int) < (↑(List.length rs) : Int), (!pairB (List.getD rs (Int.toNat (↑i : Int)) dr0).2) = false, (!pairB (List.getD rs (Int.toNat (↑i : Int)) dr0).2) = false, (!pairB (List.getD rs (Int.toNat (↑i : Int)) dr0).2) = false, (!pairB (List.getD rs (Int.toNat (↑i : Int)) dr0).2) = false, (!pairB (List.getD rs (Int.toNat (↑i : Int)) dr0).2) = false, (!pairB (List.getD rs (Int.toNat (↑i : Int)) dr0).3) = false, (!pairB (List.getD rs (Int.toNat (↑i : Int)) dr0).3) = false, (!pairB (List.getD rs (Int.toNat (↑i : Int)) dr0).3) = false, (AV.view 1 (List.length (List.getD rs (Int.toNat (↑i : Int)) dr0).1) fun i_1 => [AV.val (Value.string { data := List.toArray (List.getD (List.getD rs (Int.toNat (↑i : Int)) dr0).1 i_1 []) })]) = AV.view 1 (List.length (lsOf (AV.view 1 (List.length (List.getD rs (Int.toNat (↑i : Int)) dr0).1) fun i_1 => [AV.val (Value.string { data := List.toArray (List.getD (List.getD rs (Int.toNat (↑i : Int)) dr0).1 i_1 []) })]))) fun i_1 => [AV.val (Value.string { data := List.toArray (List.getD (lsOf (AV.view 1 (List.length (List.getD rs (Int.toNat (↑i : Int)) dr0).1) fun i_2 => [AV.val (Value.string { data := List.toArray (List.getD (List.getD rs (Int.toNat (↑i : Int)) dr0).1 i_2 []) })])) i_1 []) })], lsK (lsOf (AV.view 1 (List.length (List.getD rs (Int.toNat (↑i : Int)) dr0).1) fun i_1 => [AV.val (Value.string { data := List.toArray (List.getD (List.getD rs (Int.toNat (↑i : Int)) dr0).1 i_1 []) })])), (!pairB (List.getD rs (Int.toNat (↑i : Int)) dr0).3) = false, (!pairB (List.getD rs (Int.toNat (↑i : Int)) dr0).3) = false, (!goodN (lsOf (AV.view 1 (List.length (List.getD rs (Int.toNat (↑i : Int)) dr0).1) fun i_1 => [AV.val (Value.string { data := List.toArray (List.getD (List.getD rs (Int.toNat (↑i : Int)) dr0).1 i_1 []) })]))) = false, (!goodN (lsOf (AV.view 1 (List.length (List.getD rs (Int.toNat (↑i : Int)) dr0).1) fun i_1 => [AV.val (Value.string { data := List.toArray (List.getD (List.getD rs (Int.toNat (↑i : Int)) dr0).1 i_1 []) })]))) = false, (!goodN (lsOf (AV.view 1 (List.length (List.getD rs (Int.toNat (↑i : Int)) dr0).1) fun i_1 => [AV.val (Value.string { data := List.toArray (List.getD (List.getD rs (Int.toNat (↑i : Int)) dr0).1 i_1 []) })]))) = false, (!goodN (lsOf (AV.view 1 (List.length (List.getD rs (Int.toNat (↑i : Int)) dr0).1) fun i_1 => [AV.val (Value.string { data := List.toArray (List.getD (List.getD rs (Int.toNat (↑i : Int)) dr0).1 i_1 []) })]))) = false, (!goodN (lsOf (AV.view 1 (List.length (List.getD rs (Int.toNat (↑i : Int)) dr0).1) fun i_1 => [AV.val (Value.string { data := List.toArray (List.getD (List.getD rs (Int.toNat (↑i : Int)) dr0).1 i_1 []) })]))) = false, decide ((↑(List.length (List.getD rs (Int.toNat (↑i : Int)) dr0).5) : Int) > (65535 : Int)) = true]) := by kernel_rfl

set_option maxRecDepth 100000 in
theorem gi_end (a : List DR) (o : List DR) (m : List DR) (j : Nat) (rs : List DR) (i : Nat) : stepXS kDg [(96, { br := [(76, false)] })] Try.prog 96 13 (giG a o m j rs i) (glG a o m j) [0] 0 [] = some (.exit 4, [decide ((↑i : Int) < (↑(List.length rs) : Int)) = false, AV.val (Value.int IntKind.i64 (↑j : Int)) = AV.val (Value.int IntKind.i64 (↑j : Int)), SameO (some { t := 34, sz := 1, exact := true, fz := false, body := Body.rows [[vR a], [vR o], [vR m]] }) { t := 34, sz := 1, exact := true, fz := false, body := Body.rows [[vR a], [vR o], [vR m]] }]) := by kernel_rfl
end Go.Proofs.Ytmilcpejchjleaa

/- Whether a message's parts may be: what dns.good yields. -/
namespace Go.Proofs.Ytmilcpejchjleaa
open Go.RowKit
set_option linter.unusedSimpArgs false
set_option linter.unusedVariables false

theorem pair_call (z : Int) (L : List (Nat × AObj)) (nx : Nat) : ACall Try.prog 129 [.val (.int .i64 z)] L nx (.val (.bool (pairB z))) L nx := by
  have hx : ∀ r, renL r [AV.val (Value.int .i64 z)] = [AV.val (Value.int .i64 z)] := fun r => rfl
  unfold pairB
  by_cases h1 : 0 ≤ z
  · rw [decide_eq_true h1, Bool.true_and]
    refine (outXS_ok noneKnown_ok (pair_ok z) ?_).lift hx L nx
    repeat' (first | exact allNil | refine allCons ?_ ?_)
    all_goals first | exact decide_eq_true (by omega) | exact decide_eq_false (by omega)
  · rw [decide_eq_false h1, Bool.false_and]
    refine (outXS_ok noneKnown_ok (pair_neg z) ?_).lift hx L nx
    repeat' (first | exact allNil | refine allCons ?_ ?_)
    all_goals first | exact decide_eq_true (by omega) | exact decide_eq_false (by omega)
theorem kPair_ok : InlOk Try.prog kPair := by
  intro g xs L nx v L' nx' q h hq
  unfold kPair at h
  split at h
  · rename_i hg
    subst hg
    split at h
    · split at h
      · simp only [Option.some.injEq, Prod.mk.injEq] at h
        obtain ⟨rfl, rfl, rfl, rfl⟩ := h
        exact ⟨pair_call _ L nx, Nat.le_refl _⟩
      · cases h
    · cases h
  · cases h
theorem kDg_ok : InlOk Try.prog kDg := orInl_ok kPair_ok kGoodP_ok

theorem any_loopE {P : Program} {c : Code} {α : Type} {f : α → Bool} {ls : List α} {G : Nat → GoalX} {E N : GoalX} (n : Nat)
    (hs : ∀ i (h : i < ls.length), f ls[i] = false → EvX P 0 c ((G i).st 0) .normal ((G (i + 1)).st 0))
    (hb : ∀ i (h : i < ls.length), f ls[i] = true → EvX P 0 c ((G i).st 0) .ret (N.st 0))
    (he : ∀ i, ls.length ≤ i → EvX P 0 c ((G i).st 0) (.exit n) (E.st 0)) : ∀ (rest : List α) (i : Nat), ls.drop i = rest → EvXL P 0 c ((G i).st 0) (if rest.any f then .ret else .exit n) ((if rest.any f then N else E).st 0)
  | [], i, h => by
    simp only [List.any_nil, Bool.false_eq_true, if_false]
    exact EvXL.last (he i (by simpa using h)) (by simp)
  | s :: r, i, h => by
    have hk : i < ls.length := by
      rcases Nat.lt_or_ge i ls.length with h' | h'
      · exact h'
      · rw [List.drop_of_length_le h'] at h; cases h
    have hc := List.drop_eq_getElem_cons hk
    rw [h] at hc
    injection hc with h1 h2
    cases hf : f s with
    | true =>
      have e : (s :: r).any f = true := by simp [hf]
      rw [e]
      exact EvXL.last (hb i hk (by rw [← h1]; exact hf)) (by simp)
    | false =>
      have e : (s :: r).any f = r.any f := by simp [hf]
      rw [e]
      exact EvXL.step (hs i hk (by rw [← h1]; exact hf)) (any_loopE n hs hb he r (i + 1) h2.symm)

/-- names and lists of no great length -/
def qK (qs : List DQ) : Prop := qs.length ≤ 1000 ∧ ∀ i, lsK (qs.getD i dq0).name
def rK (rs : List DR) : Prop := rs.length ≤ 1000 ∧ ∀ i, lsK (rs.getD i dr0).name ∧ (rs.getD i dr0).data.length ≤ 100000
theorem getQ {qs : List DQ} {i : Nat} (hi : i < qs.length) : qs.getD i dq0 = qs[i] := by rw [List.getD_eq_getElem?_getD, List.getElem?_eq_getElem hi]; rfl
theorem getR {qs : List DR} {i : Nat} (hi : i < qs.length) : qs.getD i dr0 = qs[i] := by rw [List.getD_eq_getElem?_getD, List.getElem?_eq_getElem hi]; rfl


theorem gq_loop (id fl : Int) (qs : List DQ) (a o m : List DR) (hk : qK qs) :
    EvXL Try.prog 0 (loopAt Try.prog 96 4) ((gqG id fl qs a o m 0).st 0) (if qs.any (fun q => !qOk q) then .ret else .exit 0) ((if qs.any (fun q => !qOk q) then gdN2 else gqE id fl qs a o m).st 0) := by
  have en := fun i => lsOf_vS (qs.getD i dq0).name
  unfold vS sStr at en
  have hkl := hk.1
  refine any_loopE 0 (fun i hi hf => ?_) (fun i hi hf => ?_) (fun i hi => ?_) qs 0 rfl
  · have hk1 := hk.2 i
    rw [← getQ hi] at hf
    unfold qOk at hf
    simp only [Bool.not_eq_false', Bool.and_eq_true] at hf
    obtain ⟨⟨b1, b2⟩, b3⟩ := hf
    exact stepXS_ok kDg_ok (gq_step id fl qs a o m i) (by
        simp only [Int.toNat_natCast, en]
        repeat' (first | exact allNil | refine allCons ?_ ?_ | (with_reducible refine allRp _ ?_ ?_))
        all_goals first | (with_reducible rfl) | exact True.intro | exact hk1 | exact decide_eq_true (by omega) | exact decide_eq_false (by omega) | exact sI_succ i (by omega) | omega | (rw [b1]; rfl) | (rw [b2]; rfl) | (rw [b3]; rfl) | exact rfl)
  · have hk1 := hk.2 i
    rw [← getQ hi] at hf
    unfold qOk at hf
    cases b1 : pairB (qs.getD i dq0).ty with
    | false =>
      have b2 := b1
      have b3 := b1
      exact stepXS_ok kDg_ok (gq_b1 id fl qs a o m i) (by
        simp only [Int.toNat_natCast, en]
        repeat' (first | exact allNil | refine allCons ?_ ?_ | (with_reducible refine allRp _ ?_ ?_))
        all_goals first | (with_reducible rfl) | exact True.intro | exact hk1 | exact decide_eq_true (by omega) | exact decide_eq_false (by omega) | exact sI_succ i (by omega) | omega | (rw [b1]; rfl) | (rw [b2]; rfl) | (rw [b3]; rfl) | exact rfl)
    | true =>
    cases b2 : pairB (qs.getD i dq0).cl with
    | false =>
      have b3 := b1
      exact stepXS_ok kDg_ok (gq_b2 id fl qs a o m i) (by
        simp only [Int.toNat_natCast, en]
        repeat' (first | exact allNil | refine allCons ?_ ?_ | (with_reducible refine allRp _ ?_ ?_))
        all_goals first | (with_reducible rfl) | exact True.intro | exact hk1 | exact decide_eq_true (by omega) | exact decide_eq_false (by omega) | exact sI_succ i (by omega) | omega | (rw [b1]; rfl) | (rw [b2]; rfl) | (rw [b3]; rfl) | exact rfl)
    | true =>
    have b3 : goodN (qs.getD i dq0).name = false := by rw [b1, b2] at hf; simpa using hf
    exact stepXS_ok kDg_ok (gq_b3 id fl qs a o m i) (by
        simp only [Int.toNat_natCast, en]
        repeat' (first | exact allNil | refine allCons ?_ ?_ | (with_reducible refine allRp _ ?_ ?_))
        all_goals first | (with_reducible rfl) | exact True.intro | exact hk1 | exact decide_eq_true (by omega) | exact decide_eq_false (by omega) | exact sI_succ i (by omega) | omega | (rw [b1]; rfl) | (rw [b2]; rfl) | (rw [b3]; rfl) | exact rfl)
  · exact stepXS_ok kDg_ok (gq_end id fl qs a o m i) (by
      repeat' (first | exact allNil | refine allCons ?_ ?_ | (with_reducible refine allRp _ ?_ ?_))
      all_goals first | (with_reducible rfl) | exact decide_eq_false (by omega) | exact rfl)

theorem gi_loop (a o m : List DR) (j : Nat) (rs : List DR) (hk : rK rs) :
    EvXL Try.prog 0 (loopAt Try.prog 96 13) ((giG a o m j rs 0).st 0) (if rs.any (fun q => !rOk q) then .ret else .exit 4) ((if rs.any (fun q => !rOk q) then gdN2 else glG a o m j).st 0) := by
  have en := fun i => lsOf_vS (rs.getD i dr0).name
  unfold vS sStr at en
  have hkl := hk.1
  refine any_loopE 4 (fun i hi hf => ?_) (fun i hi hf => ?_) (fun i hi => ?_) rs 0 rfl
  · have hk1 := (hk.2 i).1
    rw [← getR hi] at hf
    unfold rOk at hf
    simp only [Bool.not_eq_false', Bool.and_eq_true, decide_eq_true_eq] at hf
    obtain ⟨⟨⟨b1, b2⟩, b3⟩, b4⟩ := hf
    exact stepXS_ok kDg_ok (gi_step a o m j rs i) (by
        simp only [Int.toNat_natCast, en]
        repeat' (first | exact allNil | refine allCons ?_ ?_ | (with_reducible refine allRp _ ?_ ?_))
        all_goals first | (with_reducible rfl) | exact True.intro | exact hk1 | exact decide_eq_true (by omega) | exact decide_eq_false (by omega) | exact sI_succ i (by omega) | omega | (rw [b1]; rfl) | (rw [b2]; rfl) | (rw [b3]; rfl) | exact rfl)
  · have hk1 := (hk.2 i).1
    rw [← getR hi] at hf
    unfold rOk at hf
    cases b1 : pairB (rs.getD i dr0).ty with
    | false =>
      have b2 := b1
      have b3 := b1
      exact stepXS_ok kDg_ok (gi_b1 a o m j rs i) (by
        simp only [Int.toNat_natCast, en]
        repeat' (first | exact allNil | refine allCons ?_ ?_ | (with_reducible refine allRp _ ?_ ?_))
        all_goals first | (with_reducible rfl) | exact True.intro | exact hk1 | exact decide_eq_true (by omega) | exact decide_eq_false (by omega) | exact sI_succ i (by omega) | omega | (rw [b1]; rfl) | (rw [b2]; rfl) | (rw [b3]; rfl) | exact rfl)
    | true =>
    cases b2 : pairB (rs.getD i dr0).cl with
    | false =>
      have b3 := b1
      exact stepXS_ok kDg_ok (gi_b2 a o m j rs i) (by
        simp only [Int.toNat_natCast, en]
        repeat' (first | exact allNil | refine allCons ?_ ?_ | (with_reducible refine allRp _ ?_ ?_))
        all_goals first | (with_reducible rfl) | exact True.intro | exact hk1 | exact decide_eq_true (by omega) | exact decide_eq_false (by omega) | exact sI_succ i (by omega) | omega | (rw [b1]; rfl) | (rw [b2]; rfl) | (rw [b3]; rfl) | exact rfl)
    | true =>
    cases b3 : goodN (rs.getD i dr0).name with
    | false => exact stepXS_ok kDg_ok (gi_b3 a o m j rs i) (by
        simp only [Int.toNat_natCast, en]
        repeat' (first | exact allNil | refine allCons ?_ ?_ | (with_reducible refine allRp _ ?_ ?_))
        all_goals first | (with_reducible rfl) | exact True.intro | exact hk1 | exact decide_eq_true (by omega) | exact decide_eq_false (by omega) | exact sI_succ i (by omega) | omega | (rw [b1]; rfl) | (rw [b2]; rfl) | (rw [b3]; rfl) | exact rfl)
    | true =>
    have b4 : 65535 < (rs.getD i dr0).data.length := by
      rw [b1, b2, b3] at hf
      simpa using hf
    exact stepXS_ok kDg_ok (gi_b4 a o m j rs i) (by
        simp only [Int.toNat_natCast, en]
        repeat' (first | exact allNil | refine allCons ?_ ?_ | (with_reducible refine allRp _ ?_ ?_))
        all_goals first | (with_reducible rfl) | exact True.intro | exact hk1 | exact decide_eq_true (by omega) | exact decide_eq_false (by omega) | exact sI_succ i (by omega) | omega | (rw [b1]; rfl) | (rw [b2]; rfl) | (rw [b3]; rfl) | exact rfl)
  · exact stepXS_ok kDg_ok (gi_end a o m j rs i) (by
      repeat' (first | exact allNil | refine allCons ?_ ?_ | (with_reducible refine allRp _ ?_ ?_))
      all_goals first | (with_reducible rfl) | exact decide_eq_false (by omega) | exact rfl)

def rBad (rs : List DR) : Bool := rs.any fun q => !rOk q
theorem gl_loop (a o m : List DR) (ha : rK a) (ho : rK o) (hm : rK m) :
    EvXL Try.prog 0 (loopAt Try.prog 96 10) ((glG a o m 0).st 0) (if rBad a || rBad o || rBad m then .ret else .exit 2) ((if rBad a || rBad o || rBad m then gdN2 else glE).st 0) := by
  have h0 := gi_loop a o m 0 a ha
  have h1 := gi_loop a o m 1 o ho
  have h2 := gi_loop a o m 2 m hm

  cases b0 : rBad a with
  | true =>
    unfold rBad at b0
    rw [b0] at h0
    try simp only [Bool.true_or, Bool.or_true, Bool.false_or, if_true]
    exact EvXL.last (stepXS_ok kDg_ok (gl_b0 a o m) (by
      repeat' (first | exact allNil | refine allCons ?_ ?_ | (with_reducible refine allRp _ ?_ ?_))
      all_goals first | (with_reducible rfl) | exact h0 | exact rfl)) (by simp)
  | false =>
  unfold rBad at b0
  rw [b0] at h0
  refine EvXL.step (stepXS_ok kDg_ok (gl_step0 a o m) (by
    repeat' (first | exact allNil | refine allCons ?_ ?_ | (with_reducible refine allRp _ ?_ ?_))
    all_goals first | (with_reducible rfl) | exact h0 | exact rfl)) ?_
  cases b1 : rBad o with
  | true =>
    unfold rBad at b1
    rw [b1] at h1
    try simp only [Bool.true_or, Bool.or_true, Bool.false_or, if_true]
    exact EvXL.last (stepXS_ok kDg_ok (gl_b1 a o m) (by
      repeat' (first | exact allNil | refine allCons ?_ ?_ | (with_reducible refine allRp _ ?_ ?_))
      all_goals first | (with_reducible rfl) | exact h1 | exact rfl)) (by simp)
  | false =>
  unfold rBad at b1
  rw [b1] at h1
  refine EvXL.step (stepXS_ok kDg_ok (gl_step1 a o m) (by
    repeat' (first | exact allNil | refine allCons ?_ ?_ | (with_reducible refine allRp _ ?_ ?_))
    all_goals first | (with_reducible rfl) | exact h1 | exact rfl)) ?_
  cases b2 : rBad m with
  | true =>
    unfold rBad at b2
    rw [b2] at h2
    try simp only [Bool.true_or, Bool.or_true, Bool.false_or, if_true]
    exact EvXL.last (stepXS_ok kDg_ok (gl_b2 a o m) (by
      repeat' (first | exact allNil | refine allCons ?_ ?_ | (with_reducible refine allRp _ ?_ ?_))
      all_goals first | (with_reducible rfl) | exact h2 | exact rfl)) (by simp)
  | false =>
  unfold rBad at b2
  rw [b2] at h2
  refine EvXL.step (stepXS_ok kDg_ok (gl_step2 a o m) (by
    repeat' (first | exact allNil | refine allCons ?_ ?_ | (with_reducible refine allRp _ ?_ ?_))
    all_goals first | (with_reducible rfl) | exact h2 | exact rfl)) ?_
  exact EvXL.last (stepXS_ok kDg_ok (gl_end a o m) (by
    repeat' (first | exact allNil | refine allCons ?_ ?_ | (with_reducible refine allRp _ ?_ ?_))
    all_goals first | (with_reducible rfl) | exact rfl)) (by simp)

/-- whether a message's parts may be -/
def gdM (id fl : Int) (qs : List DQ) (a o m : List DR) : Bool := pairB id && (pairB fl && (decide (qs.length + a.length + o.length + m.length ≤ 64) && (!(qs.any fun q => !qOk q) && !(rBad a || rBad o || rBad m))))
set_option maxRecDepth 20000 in
theorem good_msg (id fl : Int) (qs : List DQ) (a o m : List DR) (hq : qK qs) (ha : rK a) (ho : rK o) (hm : rK m) :
    ACall Try.prog 96 [msgA id fl qs a o m] [] 0 (.val (.bool (gdM id fl qs a o m))) [] 0 := by
  have hx : ∀ r, renL r [msgA id fl qs a o m] = [msgA id fl qs a o m] := fun r => rfl
  have l1 := gq_loop id fl qs a o m hq
  have l2 := gl_loop a o m ha ho hm
  have n1 := hq.1
  have n2 := ha.1
  have n3 := ho.1
  have n4 := hm.1
  have ew : IntKind.wrap IntKind.i64 (IntKind.wrap IntKind.i64 (IntKind.wrap IntKind.i64 ((qs.length : Int) + (a.length : Int)) + (o.length : Int)) + (m.length : Int)) = ((qs.length + a.length + o.length + m.length : Nat) : Int) := by
    rw [wNat (z := (qs.length : Int) + (a.length : Int)) (qs.length + a.length) (by omega) (by omega), wNat (z := ((qs.length + a.length : Nat) : Int) + (o.length : Int)) (qs.length + a.length + o.length) (by omega) (by omega), wNat (z := ((qs.length + a.length + o.length : Nat) : Int) + (m.length : Int)) (qs.length + a.length + o.length + m.length) (by omega) (by omega)]
  unfold gdM
  cases b1 : pairB id with
  | false =>
    refine (outXS_ok kDg_ok (gdm_id id fl qs a o m) ?_).lift hx [] 0
    repeat' (first | exact allNil | refine allCons ?_ ?_ | (with_reducible refine allRp _ ?_ ?_))
    all_goals first | (with_reducible rfl) | (rw [b1]; rfl) | exact rfl
  | true =>
  cases b2 : pairB fl with
  | false =>
    refine (outXS_ok kDg_ok (gdm_fl id fl qs a o m) ?_).lift hx [] 0
    repeat' (first | exact allNil | refine allCons ?_ ?_ | (with_reducible refine allRp _ ?_ ?_))
    all_goals first | (with_reducible rfl) | (rw [b1]; rfl) | (rw [b2]; rfl) | exact True.intro | exact rfl
  | true =>
  by_cases h64 : qs.length + a.length + o.length + m.length ≤ 64
  · rw [decide_eq_true h64]
    cases b3 : qs.any fun q => !qOk q with
    | true =>
      rw [b3] at l1
      refine (outXS_ok kDg_ok (gdm_q id fl qs a o m) ?_).lift hx [] 0
      simp only [ew]
      repeat' (first | exact allNil | refine allCons ?_ ?_ | (with_reducible refine allRp _ ?_ ?_))
      all_goals first | (with_reducible rfl) | exact l1 | exact decide_eq_false (by omega) | (rw [b1]; rfl) | (rw [b2]; rfl) | exact True.intro | exact rfl
    | false =>
      rw [b3] at l1
      cases b4 : rBad a || rBad o || rBad m with
      | true =>
        rw [b4] at l2
        refine (outXS_ok kDg_ok (gdm_r id fl qs a o m) ?_).lift hx [] 0
        simp only [ew]
        repeat' (first | exact allNil | refine allCons ?_ ?_ | (with_reducible refine allRp _ ?_ ?_))
        all_goals first | (with_reducible rfl) | exact l1 | exact l2 | exact decide_eq_false (by omega) | (rw [b1]; rfl) | (rw [b2]; rfl) | exact True.intro | exact rfl
      | false =>
        rw [b4] at l2
        refine (outXS_ok kDg_ok (gdm_yes id fl qs a o m) ?_).lift hx [] 0
        simp only [ew]
        repeat' (first | exact allNil | refine allCons ?_ ?_ | (with_reducible refine allRp _ ?_ ?_))
        all_goals first | (with_reducible rfl) | exact l1 | exact l2 | exact decide_eq_false (by omega) | (rw [b1]; rfl) | (rw [b2]; rfl) | exact True.intro | exact rfl
  · rw [decide_eq_false h64]
    refine (outXS_ok kDg_ok (gdm_many id fl qs a o m) ?_).lift hx [] 0
    simp only [ew]
    repeat' (first | exact allNil | refine allCons ?_ ?_ | (with_reducible refine allRp _ ?_ ?_))
    all_goals first | (with_reducible rfl) | exact decide_eq_true (by omega) | (rw [b1]; rfl) | (rw [b2]; rfl) | exact True.intro | exact rfl
end Go.Proofs.Ytmilcpejchjleaa
