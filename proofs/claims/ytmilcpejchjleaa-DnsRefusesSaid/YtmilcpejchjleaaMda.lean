/- Several texts in one: Da0, DaRun, Da. -/
import Derived.Test.YtmilcpejchjleaaMdz
import Derived.Test.YtmilcpejchjleaaLa

/- Messages: words, and whether one is more than is asked of (law 21). -/
namespace Go.Proofs.Ytmilcpejchjleaa
open Go.RowKit

structure DQ where
  name : List (List UInt8)
  ty : Int
  cl : Int
structure DR where
  name : List (List UInt8)
  ty : Int
  cl : Int
  ttl : Int
  data : List UInt8
def dq0 : DQ := ⟨[], 0, 0⟩
def dr0 : DR := ⟨[], 0, 0, 0, []⟩
def iU (z : Int) : AV := .val (.int .u32 z)
def vQ (qs : List DQ) : AV := .view 3 qs.length fun i => [vS (qs.getD i dq0).name, iI (qs.getD i dq0).ty, iI (qs.getD i dq0).cl]
def vR (rs : List DR) : AV := .view 5 rs.length fun i => [vS (rs.getD i dr0).name, iI (rs.getD i dr0).ty, iI (rs.getD i dr0).cl, iU (rs.getD i dr0).ttl, .bytes (rs.getD i dr0).data]
def unDQ : List AV → DQ
  | [nm, .val (.int _ ty), .val (.int _ cl)] => ⟨lsOf nm, ty, cl⟩
  | _ => dq0
def unDR : List AV → DR
  | [nm, .val (.int _ ty), .val (.int _ cl), .val (.int _ ttl), .bytes d] => ⟨lsOf nm, ty, cl, ttl, d⟩
  | _ => dr0
def RQ : RTy DQ := ⟨fun q => [vS q.name, iI q.ty, iI q.cl], unDQ, dq0, 3, fun q => by
  show DQ.mk (lsOf (vS q.name)) q.ty q.cl = q
  rw [lsOf_vS], fun _ => rfl, fun _ _ => rfl⟩
def RR : RTy DR := ⟨fun q => [vS q.name, iI q.ty, iI q.cl, iU q.ttl, .bytes q.data], unDR, dr0, 5, fun q => by
  show DR.mk (lsOf (vS q.name)) q.ty q.cl q.ttl q.data = q
  rw [lsOf_vS], fun _ => rfl, fun _ _ => rfl⟩
def ofVQ (x : AV) : List DQ := ofVG RQ x
def ofRQ (x : List (List AV)) : List DQ := ofRG RQ x
def okRQ (x : List (List AV)) : Prop := okRG RQ x
def ofVR (x : AV) : List DR := ofVG RR x
def ofRR (x : List (List AV)) : List DR := ofRG RR x
def okRR (x : List (List AV)) : Prop := okRG RR x
def rowsQ (l : List DQ) : List (List AV) := rowsG RQ l
def rowsR (l : List DR) : List (List AV) := rowsG RR l
def WQ : RTyW DQ := ⟨RQ, 3, ofVQ, ofRQ, okRQ, vQ, rfl, fun _ => rfl, fun _ => rfl, fun _ => rfl, fun _ => rfl⟩
def WR : RTyW DR := ⟨RR, 5, ofVR, ofRR, okRR, vR, rfl, fun _ => rfl, fun _ => rfl, fun _ => rfl, fun _ => rfl⟩
theorem ofVQ_v (l : List DQ) : ofVQ (vQ l) = l := RTy.ofV_v RQ l
theorem ofVR_v (l : List DR) : ofVR (vR l) = l := RTy.ofV_v RR l
def msgA (id fl : Int) (qs : List DQ) (a o m : List DR) : AV := .agg [iI id, iI fl, vQ qs, vR a, vR o, vR m]

def kLong21 : Inl := kPlain 107 (fun ls => .bool (longN ls)) fun _ => True
def l1G (ls : List (List UInt8)) (i : Nat) : GoalX := { len := 19, opn := [(0, vS ls), (3, sI i)] }
def l1E : GoalX := { len := 19 }
def l1N : GoalX := { len := 19, tms := [(2, .val (.bool true))] }
def l1L (ls : List (List UInt8)) : LoopX := { ids := [], G := l1G ls 0, ex := .exit 0, E := l1E }
def l1R (ls : List (List UInt8)) : LoopX := { ids := [], G := l1G ls 0, ex := .ret, E := l1N }

def manR (rs : List DR) : Bool := rs.any fun r => longN r.name || decide (2000 < r.data.length)
def manN (rs : List DR) : Bool := decide (70 < rs.length) || manR rs
def mnG (rs : List DR) (i : Nat) : GoalX := { len := 28, opn := [(0, vR rs), (3, sI i)] }
def mnE : GoalX := { len := 28 }
def mnN : GoalX := { len := 28, tms := [(2, .val (.bool true))] }
def mnL (rs : List DR) : LoopX := { ids := [], G := mnG rs 0, ex := .exit 0, E := mnE }
def mnR (rs : List DR) : LoopX := { ids := [], G := mnG rs 0, ex := .ret, E := mnN }

def kMany : Inl := WR.known 106 (fun rs => .bool (manN rs)) fun _ => True
def grR (qs : List DQ) : Bool := qs.any fun q => longN q.name
def grtG (id fl : Int) (qs : List DQ) (a o m : List DR) (i : Nat) : GoalX := { len := 37, tms := [(1, .ptr 0 0 0)], opn := [(3, sI i)], oob := [(0, objOne 36 [iI id, iI fl, vQ qs, vR a, vR o, vR m])], k := 1 }
def grtE : GoalX := { len := 37 }
def grtN : GoalX := { len := 37, tms := [(2, .val (.bool true))] }
def grtL (id fl : Int) (qs : List DQ) (a o m : List DR) : LoopX := { ids := [0], G := grtG id fl qs a o m 0, ex := .exit 0, E := grtE }
def grtR (id fl : Int) (qs : List DQ) (a o m : List DR) : LoopX := { ids := [0], G := grtG id fl qs a o m 0, ex := .ret, E := grtN }
def kGr : Inl := orInl kMany kLong21
end Go.Proofs.Ytmilcpejchjleaa

/- Whether a message is more than is asked of, reckoned. -/
namespace Go.Proofs.Ytmilcpejchjleaa
open Go.RowKit

set_option maxRecDepth 100000 in
theorem l1_many (ls : List (List UInt8)) : outXS noneKnown [(107, { br := [(6, true)] })] Try.prog 107 [AV.view 1 (List.length ls) fun i => [AV.val (Value.string { data := List.toArray (List.getD ls i []) })]] [] 0 [] [] = some (AV.val (Value.bool true), [], 5, [decide ((↑(List.length ls) : Int) > (200 : Int)) = true]) := by kernel_rfl

set_option maxRecDepth 100000 in
theorem l1_no (ls : List (List UInt8)) : outXS noneKnown [(107, { br := [(6, false)] })] Try.prog 107 [AV.view 1 (List.length ls) fun i => [AV.val (Value.string { data := List.toArray (List.getD ls i []) })]] [] 0 [] [(4, l1L ls)] = some (AV.val (Value.bool false), [], 1, [decide ((↑(List.length ls) : Int) > (200 : Int)) = false, (AV.view 1 (List.length ls) fun i => [AV.val (Value.string { data := List.toArray (List.getD ls i []) })]) = AV.view 1 (List.length ls) fun i => [AV.val (Value.string { data := List.toArray (List.getD ls i []) })], AV.val (Value.int IntKind.i64 (0 : Int)) = AV.val (Value.int IntKind.i64 (0 : Int)), EvXL Try.prog 0 (loopAt Try.prog 107 4) (GoalX.st (LoopX.G (l1L ls)) 0) (LoopX.ex (l1L ls)) (GoalX.st (LoopX.E (l1L ls)) 0)]) := by kernel_rfl

set_option maxRecDepth 100000 in
theorem l1_yes (ls : List (List UInt8)) : outXS noneKnown [(107, { br := [(6, false)] })] Try.prog 107 [AV.view 1 (List.length ls) fun i => [AV.val (Value.string { data := List.toArray (List.getD ls i []) })]] [] 0 [] [(4, l1R ls)] = some (AV.val (Value.bool true), [], 0, [decide ((↑(List.length ls) : Int) > (200 : Int)) = false, (AV.view 1 (List.length ls) fun i => [AV.val (Value.string { data := List.toArray (List.getD ls i []) })]) = AV.view 1 (List.length ls) fun i => [AV.val (Value.string { data := List.toArray (List.getD ls i []) })], AV.val (Value.int IntKind.i64 (0 : Int)) = AV.val (Value.int IntKind.i64 (0 : Int)), EvXL Try.prog 0 (loopAt Try.prog 107 4) (GoalX.st (LoopX.G (l1R ls)) 0) (LoopX.ex (l1R ls)) (GoalX.st (LoopX.E (l1R ls)) 0)]) := by kernel_rfl

set_option maxRecDepth 100000 in
theorem l1_step (ls : List (List UInt8)) (i : Nat) : stepXS noneKnown [(107, { br := [(10, true), (18, false)], ob := [(6, 2)] })] Try.prog 107 4 (l1G ls i) (l1G ls (i + 1)) [] 0 [] = some (.normal, [decide ((↑i : Int) < (↑(List.length ls) : Int)) = true, (0 : Int) ≤ (↑i : Int) ∧ (↑i : Int) < (↑(List.length ls) : Int), decide ((↑(List.length (List.getD ls i [])) : Int) > (300 : Int)) = false, (AV.view 1 (List.length ls) fun i => [AV.val (Value.string { data := List.toArray (List.getD ls i []) })]) = AV.view 1 (List.length ls) fun i => [AV.val (Value.string { data := List.toArray (List.getD ls i []) })], AV.val (Value.int IntKind.i64 (IntKind.wrap IntKind.i64 ((↑i : Int) + (1 : Int)))) = AV.val (Value.int IntKind.i64 (↑(i + 1) : Int))]) := by kernel_rfl

set_option maxRecDepth 100000 in
theorem l1_b (ls : List (List UInt8)) (i : Nat) : stepXS noneKnown [(107, { br := [(10, true), (18, true)], ob := [(6, 2)] })] Try.prog 107 4 (l1G ls i) (l1N) [] 0 [] = some (.ret, [decide ((↑i : Int) < (↑(List.length ls) : Int)) = true, (0 : Int) ≤ (↑i : Int) ∧ (↑i : Int) < (↑(List.length ls) : Int), decide ((↑(List.length (List.getD ls i [])) : Int) > (300 : Int)) = true]) := by kernel_rfl

set_option maxRecDepth 100000 in
theorem l1_end (ls : List (List UInt8)) (i : Nat) : stepXS noneKnown [(107, { br := [(10, false)] })] Try.prog 107 4 (l1G ls i) (l1E) [] 0 [] = some (.exit 0, [decide ((↑i : Int) < (↑(List.length ls) : Int)) = false]) := by kernel_rfl

set_option maxRecDepth 100000 in
theorem mn_many (rs : List DR) : outXS kLong21 [(106, { br := [(6, true)] })] Try.prog 106 [vR rs] [] 0 [] [] = some (AV.val (Value.bool true), [], 5, [decide ((↑(List.length rs) : Int) > (70 : Int)) = true]) := by kernel_rfl

set_option maxRecDepth 100000 in
theorem mn_no (rs : List DR) : outXS kLong21 [(106, { br := [(6, false)] })] Try.prog 106 [vR rs] [] 0 [] [(4, mnL rs)] = some (AV.val (Value.bool false), [], 1, [decide ((↑(List.length rs) : Int) > (70 : Int)) = false, (vR rs) = vR rs, AV.val (Value.int IntKind.i64 (0 : Int)) = AV.val (Value.int IntKind.i64 (0 : Int)), EvXL Try.prog 0 (loopAt Try.prog 106 4) (GoalX.st (LoopX.G (mnL rs)) 0) (LoopX.ex (mnL rs)) (GoalX.st (LoopX.E (mnL rs)) 0)]) := by kernel_rfl

set_option maxRecDepth 100000 in
theorem mn_yes (rs : List DR) : outXS kLong21 [(106, { br := [(6, false)] })] Try.prog 106 [vR rs] [] 0 [] [(4, mnR rs)] = some (AV.val (Value.bool true), [], 0, [decide ((↑(List.length rs) : Int) > (70 : Int)) = false, (vR rs) = vR rs, AV.val (Value.int IntKind.i64 (0 : Int)) = AV.val (Value.int IntKind.i64 (0 : Int)), EvXL Try.prog 0 (loopAt Try.prog 106 4) (GoalX.st (LoopX.G (mnR rs)) 0) (LoopX.ex (mnR rs)) (GoalX.st (LoopX.E (mnR rs)) 0)]) := by kernel_rfl

set_option maxRecDepth 100000 in
theorem mn_step (rs : List DR) (i : Nat) : stepXS kLong21 [(106, { op := [(6, 14, .br false)], gd := [(6, 7, false), (6, 8, false), (6, 9, false), (6, 10, false), (6, 11, false), (6, 12, false), (6, 13, false)], br := [(10, true), (27, false)], ob := [(6, 2), (6, 9)] })] Try.prog 106 4 (mnG rs i) (mnG rs (i + 1)) [] 0 [] = some (.normal, [decide ((↑i : Int) < (↑(List.length rs) : Int)) = true, (0 : Int) ≤ (↑i : Int) ∧ (↑i : Int) < (↑(List.length rs) : Int), (AV.view 1 (List.length (List.getD rs (Int.toNat (↑i : Int)) dr0).1) fun i_1 => [AV.val (Value.string { data := List.toArray (List.getD (List.getD rs (Int.toNat (↑i : Int)) dr0).1 i_1 []) })]) = AV.view 1 (List.length (lsOf (AV.view 1 (List.length (List.getD rs (Int.toNat (↑i : Int)) dr0).1) fun i_1 => [AV.val (Value.string { data := List.toArray (List.getD (List.getD rs (Int.toNat (↑i : Int)) dr0).1 i_1 []) })]))) fun i_1 => [AV.val (Value.string { data := List.toArray (List.getD (lsOf (AV.view 1 (List.length (List.getD rs (Int.toNat (↑i : Int)) dr0).1) fun i_2 => [AV.val (Value.string { data := List.toArray (List.getD (List.getD rs (Int.toNat (↑i : Int)) dr0).1 i_2 []) })])) i_1 []) })], True, longN (lsOf (AV.view 1 (List.length (List.getD rs (Int.toNat (↑i : Int)) dr0).1) fun i_1 => [AV.val (Value.string { data := List.toArray (List.getD (List.getD rs (Int.toNat (↑i : Int)) dr0).1 i_1 []) })])) = false, longN (lsOf (AV.view 1 (List.length (List.getD rs (Int.toNat (↑i : Int)) dr0).1) fun i_1 => [AV.val (Value.string { data := List.toArray (List.getD (List.getD rs (Int.toNat (↑i : Int)) dr0).1 i_1 []) })])) = false, longN (lsOf (AV.view 1 (List.length (List.getD rs (Int.toNat (↑i : Int)) dr0).1) fun i_1 => [AV.val (Value.string { data := List.toArray (List.getD (List.getD rs (Int.toNat (↑i : Int)) dr0).1 i_1 []) })])) = false, (0 : Int) ≤ (↑i : Int) ∧ (↑i : Int) < (↑(List.length rs) : Int), longN (lsOf (AV.view 1 (List.length (List.getD rs (Int.toNat (↑i : Int)) dr0).1) fun i_1 => [AV.val (Value.string { data := List.toArray (List.getD (List.getD rs (Int.toNat (↑i : Int)) dr0).1 i_1 []) })])) = false, longN (lsOf (AV.view 1 (List.length (List.getD rs (Int.toNat (↑i : Int)) dr0).1) fun i_1 => [AV.val (Value.string { data := List.toArray (List.getD (List.getD rs (Int.toNat (↑i : Int)) dr0).1 i_1 []) })])) = false, longN (lsOf (AV.view 1 (List.length (List.getD rs (Int.toNat (↑i : Int)) dr0).1) fun i_1 => [AV.val (Value.string { data := List.toArray (List.getD (List.getD rs (Int.toNat (↑i : Int)) dr0).1 i_1 []) })])) = false, longN (lsOf (AV.view 1 (List.length (List.getD rs (Int.toNat (↑i : Int)) dr0).1) fun i_1 => [AV.val (Value.string { data := List.toArray (List.getD (List.getD rs (Int.toNat (↑i : Int)) dr0).1 i_1 []) })])) = false, longN (lsOf (AV.view 1 (List.length (List.getD rs (Int.toNat (↑i : Int)) dr0).1) fun i_1 => [AV.val (Value.string { data := List.toArray (List.getD (List.getD rs (Int.toNat (↑i : Int)) dr0).1 i_1 []) })])) = false, decide ((↑(List.length (List.getD rs (Int.toNat (↑i : Int)) dr0).5) : Int) > (2000 : Int)) = false, (vR rs) = vR rs, AV.val (Value.int IntKind.i64 (IntKind.wrap IntKind.i64 ((↑i : Int) + (1 : Int)))) = AV.val (Value.int IntKind.i64 (↑(i + 1) : Int))]) := by kernel_rfl

set_option maxRecDepth 100000 in
theorem mn_b1 (rs : List DR) (i : Nat) : stepXS kLong21 [(106, { op := [(6, 14, .br true)], gd := [(6, 7, true), (6, 8, true), (6, 9, true), (6, 10, true), (6, 11, true), (6, 12, true), (6, 13, true)], br := [(10, true)], ob := [(6, 2)] })] Try.prog 106 4 (mnG rs i) (mnN) [] 0 [] = some (.ret, [decide ((↑i : Int) < (↑(List.length rs) : Int)) = true, (0 : Int) ≤ (↑i : Int) ∧ (↑i : Int) < (↑(List.length rs) : Int), (AV.view 1 (List.length (List.getD rs (Int.toNat (↑i : Int)) dr0).1) fun i_1 => [AV.val (Value.string { data := List.toArray (List.getD (List.getD rs (Int.toNat (↑i : Int)) dr0).1 i_1 []) })]) = AV.view 1 (List.length (lsOf (AV.view 1 (List.length (List.getD rs (Int.toNat (↑i : Int)) dr0).1) fun i_1 => [AV.val (Value.string { data := List.toArray (List.getD (List.getD rs (Int.toNat (↑i : Int)) dr0).1 i_1 []) })]))) fun i_1 => [AV.val (Value.string { data := List.toArray (List.getD (lsOf (AV.view 1 (List.length (List.getD rs (Int.toNat (↑i : Int)) dr0).1) fun i_2 => [AV.val (Value.string { data := List.toArray (List.getD (List.getD rs (Int.toNat (↑i : Int)) dr0).1 i_2 []) })])) i_1 []) })], True, longN (lsOf (AV.view 1 (List.length (List.getD rs (Int.toNat (↑i : Int)) dr0).1) fun i_1 => [AV.val (Value.string { data := List.toArray (List.getD (List.getD rs (Int.toNat (↑i : Int)) dr0).1 i_1 []) })])) = true, longN (lsOf (AV.view 1 (List.length (List.getD rs (Int.toNat (↑i : Int)) dr0).1) fun i_1 => [AV.val (Value.string { data := List.toArray (List.getD (List.getD rs (Int.toNat (↑i : Int)) dr0).1 i_1 []) })])) = true, longN (lsOf (AV.view 1 (List.length (List.getD rs (Int.toNat (↑i : Int)) dr0).1) fun i_1 => [AV.val (Value.string { data := List.toArray (List.getD (List.getD rs (Int.toNat (↑i : Int)) dr0).1 i_1 []) })])) = true, longN (lsOf (AV.view 1 (List.length (List.getD rs (Int.toNat (↑i : Int)) dr0).1) fun i_1 => [AV.val (Value.string { data := List.toArray (List.getD (List.getD rs (Int.toNat (↑i : Int)) dr0).1 i_1 []) })])) = true, longN (lsOf (AV.view 1 (List.length (List.getD rs (Int.toNat (↑i : Int)) dr0).1) fun i_1 => [AV.val (Value.string { data := List.toArray (List.getD (List.getD rs (Int.toNat (↑i : Int)) dr0).1 i_1 []) })])) = true, longN (lsOf (AV.view 1 (List.length (List.getD rs (Int.toNat (↑i : Int)) dr0).1) fun i_1 => [AV.val (Value.string { data := List.toArray (List.getD (List.getD rs (Int.toNat (↑i : Int)) dr0).1 i_1 []) })])) = true, longN (lsOf (AV.view 1 (List.length (List.getD rs (Int.toNat (↑i : Int)) dr0).1) fun i_1 => [AV.val (Value.string { data := List.toArray (List.getD (List.getD rs (Int.toNat (↑i : Int)) dr0).1 i_1 []) })])) = true, longN (lsOf (AV.view 1 (List.length (List.getD rs (Int.toNat (↑i : Int)) dr0).1) fun i_1 => [AV.val (Value.string { data := List.toArray (List.getD (List.getD rs (Int.toNat (↑i : Int)) dr0).1 i_1 []) })])) = true]) := by kernel_rfl

set_option maxRecDepth 100000 in
theorem mn_b2 (rs : List DR) (i : Nat) : stepXS kLong21 [(106, { op := [(6, 14, .br false)], gd := [(6, 7, false), (6, 8, false), (6, 9, false), (6, 10, false), (6, 11, false), (6, 12, false), (6, 13, false)], br := [(10, true), (27, true)], ob := [(6, 2), (6, 9)] })] Try.prog 106 4 (mnG rs i) (mnN) [] 0 [] = some (.ret, [decide ((↑i : Int) < (↑(List.length rs) : Int)) = true, (0 : Int) ≤ (↑i : Int) ∧ (↑i : Int) < (↑(List.length rs) : Int), (AV.view 1 (List.length (List.getD rs (Int.toNat (↑i : Int)) dr0).1) fun i_1 => [AV.val (Value.string { data := List.toArray (List.getD (List.getD rs (Int.toNat (↑i : Int)) dr0).1 i_1 []) })]) = AV.view 1 (List.length (lsOf (AV.view 1 (List.length (List.getD rs (Int.toNat (↑i : Int)) dr0).1) fun i_1 => [AV.val (Value.string { data := List.toArray (List.getD (List.getD rs (Int.toNat (↑i : Int)) dr0).1 i_1 []) })]))) fun i_1 => [AV.val (Value.string { data := List.toArray (List.getD (lsOf (AV.view 1 (List.length (List.getD rs (Int.toNat (↑i : Int)) dr0).1) fun i_2 => [AV.val (Value.string { data := List.toArray (List.getD (List.getD rs (Int.toNat (↑i : Int)) dr0).1 i_2 []) })])) i_1 []) })], True, longN (lsOf (AV.view 1 (List.length (List.getD rs (Int.toNat (↑i : Int)) dr0).1) fun i_1 => [AV.val (Value.string { data := List.toArray (List.getD (List.getD rs (Int.toNat (↑i : Int)) dr0).1 i_1 []) })])) = false, longN (lsOf (AV.view 1 (List.length (List.getD rs (Int.toNat (↑i : Int)) dr0).1) fun i_1 => [AV.val (Value.string { data := List.toArray (List.getD (List.getD rs (Int.toNat (↑i : Int)) dr0).1 i_1 []) })])) = false, longN (lsOf (AV.view 1 (List.length (List.getD rs (Int.toNat (↑i : Int)) dr0).1) fun i_1 => [AV.val (Value.string { data := List.toArray (List.getD (List.getD rs (Int.toNat (↑i : Int)) dr0).1 i_1 []) })])) = false, (0 : Int) ≤ (↑i : Int) ∧ (↑i : Int) < (↑(List.length rs) : Int), longN (lsOf (AV.view 1 (List.length (List.getD rs (Int.toNat (↑i : Int)) dr0).1) fun i_1 => [AV.val (Value.string { data := List.toArray (List.getD (List.getD rs (Int.toNat (↑i : Int)) dr0).1 i_1 []) })])) = false, longN (lsOf (AV.view 1 (List.length (List.getD rs (Int.toNat (↑i : Int)) dr0).1) fun i_1 => [AV.val (Value.string { data := List.toArray (List.getD (List.getD rs (Int.toNat (↑i : Int)) dr0).1 i_1 []) })])) = false, longN (lsOf (AV.view 1 (List.length (List.getD rs (Int.toNat (↑i : Int)) dr0).1) fun i_1 => [AV.val (Value.string { data := List.toArray (List.getD (List.getD rs (Int.toNat (↑i : Int)) dr0).1 i_1 []) })])) = false, longN (lsOf (AV.view 1 (List.length (List.getD rs (Int.toNat (↑i : Int)) dr0).1) fun i_1 => [AV.val (Value.string { data := List.toArray (List.getD (List.getD rs (Int.toNat (↑i : Int)) dr0).1 i_1 []) })])) = false, longN (lsOf (AV.view 1 (List.length (List.getD rs (Int.toNat (↑i : Int)) dr0).1) fun i_1 => [AV.val (Value.string { data := List.toArray (List.getD (List.getD rs (Int.toNat (↑i : Int)) dr0).1 i_1 []) })])) = false, decide ((↑(List.length (List.getD rs (Int.toNat (↑i : Int)) dr0).5) : Int) > (2000 : Int)) = true]) := by kernel_rfl

set_option maxRecDepth 100000 in
theorem mn_end (rs : List DR) (i : Nat) : stepXS kLong21 [(106, { br := [(10, false)] })] Try.prog 106 4 (mnG rs i) (mnE) [] 0 [] = some (.exit 0, [decide ((↑i : Int) < (↑(List.length rs) : Int)) = false]) := by kernel_rfl

set_option maxRecDepth 100000 in
theorem grt_q71 (id : Int) (fl : Int) (qs : List DQ) (a : List DR) (o : List DR) (m : List DR) : outXS kGr [(62, { op := [(1, 8, .br true)], gd := [(1, 5, true), (1, 6, true), (1, 7, true)] })] Try.prog 62 [AV.agg [AV.val (Value.int IntKind.i64 id), AV.val (Value.int IntKind.i64 fl), vQ qs, vR a, vR o, vR m]] [] 0 [] [] = some (AV.val (Value.bool true), [], 22, [decide ((↑(List.length qs) : Int) > (70 : Int)) = true, decide ((↑(List.length qs) : Int) > (70 : Int)) = true, decide ((↑(List.length qs) : Int) > (70 : Int)) = true, decide ((↑(List.length qs) : Int) > (70 : Int)) = true]) := by kernel_rfl

set_option maxRecDepth 100000 in
theorem grt_a (id : Int) (fl : Int) (qs : List DQ) (a : List DR) (o : List DR) (m : List DR) : outXS kGr [(62, { op := [(1, 8, .br false), (1, 13, .br true)], gd := [(1, 5, false), (1, 6, false), (1, 7, false), (1, 10, true), (1, 11, true), (1, 12, true)] })] Try.prog 62 [AV.agg [AV.val (Value.int IntKind.i64 id), AV.val (Value.int IntKind.i64 fl), vQ qs, vR a, vR o, vR m]] [] 0 [] [] = some (AV.val (Value.bool true), [], 22, [decide ((↑(List.length qs) : Int) > (70 : Int)) = false, decide ((↑(List.length qs) : Int) > (70 : Int)) = false, decide ((↑(List.length qs) : Int) > (70 : Int)) = false, (vR a) = vR (ofVR (vR a)), True, decide ((↑(List.length qs) : Int) > (70 : Int)) = false, manN (ofVR (vR a)) = true, manN (ofVR (vR a)) = true, manN (ofVR (vR a)) = true, manN (ofVR (vR a)) = true]) := by kernel_rfl

set_option maxRecDepth 100000 in
theorem grt_o (id : Int) (fl : Int) (qs : List DQ) (a : List DR) (o : List DR) (m : List DR) : outXS kGr [(62, { op := [(1, 8, .br false), (1, 13, .br false), (1, 18, .br true)], gd := [(1, 5, false), (1, 6, false), (1, 7, false), (1, 10, false), (1, 11, false), (1, 12, false), (1, 15, true), (1, 16, true), (1, 17, true)] })] Try.prog 62 [AV.agg [AV.val (Value.int IntKind.i64 id), AV.val (Value.int IntKind.i64 fl), vQ qs, vR a, vR o, vR m]] [] 0 [] [] = some (AV.val (Value.bool true), [], 22, [decide ((↑(List.length qs) : Int) > (70 : Int)) = false, decide ((↑(List.length qs) : Int) > (70 : Int)) = false, decide ((↑(List.length qs) : Int) > (70 : Int)) = false, (vR a) = vR (ofVR (vR a)), True, decide ((↑(List.length qs) : Int) > (70 : Int)) = false, manN (ofVR (vR a)) = false, manN (ofVR (vR a)) = false, manN (ofVR (vR a)) = false, (vR o) = vR (ofVR (vR o)), True, manN (ofVR (vR a)) = false, manN (ofVR (vR o)) = true, manN (ofVR (vR o)) = true, manN (ofVR (vR o)) = true, manN (ofVR (vR o)) = true]) := by kernel_rfl

set_option maxRecDepth 100000 in
theorem grt_m (id : Int) (fl : Int) (qs : List DQ) (a : List DR) (o : List DR) (m : List DR) : outXS kGr [(62, { op := [(1, 8, .br false), (1, 13, .br false), (1, 18, .br false)], gd := [(1, 5, false), (1, 6, false), (1, 7, false), (1, 10, false), (1, 11, false), (1, 12, false), (1, 15, false), (1, 16, false), (1, 17, false)], br := [(22, true)] })] Try.prog 62 [AV.agg [AV.val (Value.int IntKind.i64 id), AV.val (Value.int IntKind.i64 fl), vQ qs, vR a, vR o, vR m]] [] 0 [] [] = some (AV.val (Value.bool true), [], 22, [decide ((↑(List.length qs) : Int) > (70 : Int)) = false, decide ((↑(List.length qs) : Int) > (70 : Int)) = false, decide ((↑(List.length qs) : Int) > (70 : Int)) = false, (vR a) = vR (ofVR (vR a)), True, decide ((↑(List.length qs) : Int) > (70 : Int)) = false, manN (ofVR (vR a)) = false, manN (ofVR (vR a)) = false, manN (ofVR (vR a)) = false, (vR o) = vR (ofVR (vR o)), True, manN (ofVR (vR a)) = false, manN (ofVR (vR o)) = false, manN (ofVR (vR o)) = false, manN (ofVR (vR o)) = false, (vR m) = vR (ofVR (vR m)), True, manN (ofVR (vR o)) = false, manN (ofVR (vR m)) = true]) := by kernel_rfl

set_option maxRecDepth 100000 in
theorem grt_yes (id : Int) (fl : Int) (qs : List DQ) (a : List DR) (o : List DR) (m : List DR) : outXS kGr [(62, { op := [(1, 8, .br false), (1, 13, .br false), (1, 18, .br false)], gd := [(1, 5, false), (1, 6, false), (1, 7, false), (1, 10, false), (1, 11, false), (1, 12, false), (1, 15, false), (1, 16, false), (1, 17, false)], br := [(22, false)] })] Try.prog 62 [AV.agg [AV.val (Value.int IntKind.i64 id), AV.val (Value.int IntKind.i64 fl), vQ qs, vR a, vR o, vR m]] [] 0 [] [(4, grtR id fl qs a o m)] = some (AV.val (Value.bool true), [], 0, [decide ((↑(List.length qs) : Int) > (70 : Int)) = false, decide ((↑(List.length qs) : Int) > (70 : Int)) = false, decide ((↑(List.length qs) : Int) > (70 : Int)) = false, (vR a) = vR (ofVR (vR a)), True, decide ((↑(List.length qs) : Int) > (70 : Int)) = false, manN (ofVR (vR a)) = false, manN (ofVR (vR a)) = false, manN (ofVR (vR a)) = false, (vR o) = vR (ofVR (vR o)), True, manN (ofVR (vR a)) = false, manN (ofVR (vR o)) = false, manN (ofVR (vR o)) = false, manN (ofVR (vR o)) = false, (vR m) = vR (ofVR (vR m)), True, manN (ofVR (vR o)) = false, manN (ofVR (vR m)) = false, AV.val (Value.int IntKind.i64 (0 : Int)) = AV.val (Value.int IntKind.i64 (0 : Int)), SameO (some { t := 36, sz := 6, exact := true, fz := false, body := Body.rows [[AV.val (Value.int IntKind.i64 id), AV.val (Value.int IntKind.i64 fl), vQ qs, vR a, vR o, vR m]] }) { t := 36, sz := 6, exact := true, fz := false, body := Body.rows [[AV.val (Value.int IntKind.i64 id), AV.val (Value.int IntKind.i64 fl), vQ qs, vR a, vR o, vR m]] }, EvXL Try.prog 0 (loopAt Try.prog 62 4) (GoalX.st (LoopX.G (grtR id fl qs a o m)) 0) (LoopX.ex (grtR id fl qs a o m)) (GoalX.st (LoopX.E (grtR id fl qs a o m)) 0)]) := by kernel_rfl

set_option maxRecDepth 100000 in
theorem grt_no (id : Int) (fl : Int) (qs : List DQ) (a : List DR) (o : List DR) (m : List DR) : outXS kGr [(62, { op := [(1, 8, .br false), (1, 13, .br false), (1, 18, .br false)], gd := [(1, 5, false), (1, 6, false), (1, 7, false), (1, 10, false), (1, 11, false), (1, 12, false), (1, 15, false), (1, 16, false), (1, 17, false)], br := [(22, false)] })] Try.prog 62 [AV.agg [AV.val (Value.int IntKind.i64 id), AV.val (Value.int IntKind.i64 fl), vQ qs, vR a, vR o, vR m]] [] 0 [] [(4, grtL id fl qs a o m)] = some (AV.val (Value.bool false), [], 1, [decide ((↑(List.length qs) : Int) > (70 : Int)) = false, decide ((↑(List.length qs) : Int) > (70 : Int)) = false, decide ((↑(List.length qs) : Int) > (70 : Int)) = false, (vR a) = vR (ofVR (vR a)), True, decide ((↑(List.length qs) : Int) > (70 : Int)) = false, manN (ofVR (vR a)) = false, manN (ofVR (vR a)) = false, manN (ofVR (vR a)) = false, (vR o) = vR (ofVR (vR o)), True, manN (ofVR (vR a)) = false, manN (ofVR (vR o)) = false, manN (ofVR (vR o)) = false, manN (ofVR (vR o)) = false, (vR m) = vR (ofVR (vR m)), True, manN (ofVR (vR o)) = false, manN (ofVR (vR m)) = false, AV.val (Value.int IntKind.i64 (0 : Int)) = AV.val (Value.int IntKind.i64 (0 : Int)), SameO (some { t := 36, sz := 6, exact := true, fz := false, body := Body.rows [[AV.val (Value.int IntKind.i64 id), AV.val (Value.int IntKind.i64 fl), vQ qs, vR a, vR o, vR m]] }) { t := 36, sz := 6, exact := true, fz := false, body := Body.rows [[AV.val (Value.int IntKind.i64 id), AV.val (Value.int IntKind.i64 fl), vQ qs, vR a, vR o, vR m]] }, EvXL Try.prog 0 (loopAt Try.prog 62 4) (GoalX.st (LoopX.G (grtL id fl qs a o m)) 0) (LoopX.ex (grtL id fl qs a o m)) (GoalX.st (LoopX.E (grtL id fl qs a o m)) 0)]) := by kernel_rfl

set_option maxRecDepth 100000 in
theorem grt_step (id : Int) (fl : Int) (qs : List DQ) (a : List DR) (o : List DR) (m : List DR) (i : Nat) : stepXS kGr [(62, { br := [(27, true), (36, false)], ob := [(6, 3)] })] Try.prog 62 4 (grtG id fl qs a o m i) (grtG id fl qs a o m (i + 1)) [0] 0 [] = some (.normal, [decide ((↑i : Int) < (↑(List.length qs) : Int)) = true, (0 : Int) ≤ (↑i : Int) ∧ (↑i : Int) < (↑(List.length qs) : Int), (AV.view 1 (List.length (List.getD qs (Int.toNat (↑i : Int)) dq0).1) fun i_1 => [AV.val (Value.string { data := List.toArray (List.getD (List.getD qs (Int.toNat (↑i : Int)) dq0).1 i_1 []) })]) = AV.view 1 (List.length (lsOf (AV.view 1 (List.length (List.getD qs (Int.toNat (↑i : Int)) dq0).1) fun i_1 => [AV.val (Value.string { data := List.toArray (List.getD (List.getD qs (Int.toNat (↑i : Int)) dq0).1 i_1 []) })]))) fun i_1 => [AV.val (Value.string { data := List.toArray (List.getD (lsOf (AV.view 1 (List.length (List.getD qs (Int.toNat (↑i : Int)) dq0).1) fun i_2 => [AV.val (Value.string { data := List.toArray (List.getD (List.getD qs (Int.toNat (↑i : Int)) dq0).1 i_2 []) })])) i_1 []) })], True, longN (lsOf (AV.view 1 (List.length (List.getD qs (Int.toNat (↑i : Int)) dq0).1) fun i_1 => [AV.val (Value.string { data := List.toArray (List.getD (List.getD qs (Int.toNat (↑i : Int)) dq0).1 i_1 []) })])) = false, AV.val (Value.int IntKind.i64 (IntKind.wrap IntKind.i64 ((↑i : Int) + (1 : Int)))) = AV.val (Value.int IntKind.i64 (↑(i + 1) : Int)), SameO (some { t := 36, sz := 6, exact := true, fz := false, body := Body.rows [[AV.val (Value.int IntKind.i64 id), AV.val (Value.int IntKind.i64 fl), vQ qs, vR a, vR o, vR m]] }) { t := 36, sz := 6, exact := true, fz := false, body := Body.rows [[AV.val (Value.int IntKind.i64 id), AV.val (Value.int IntKind.i64 fl), vQ qs, vR a, vR o, vR m]] }]) := by kernel_rfl

set_option maxRecDepth 100000 in
theorem grt_b (id : Int) (fl : Int) (qs : List DQ) (a : List DR) (o : List DR) (m : List DR) (i : Nat) : stepXS kGr [(62, { br := [(27, true), (36, true)], ob := [(6, 3)] })] Try.prog 62 4 (grtG id fl qs a o m i) (grtN) [] 0 [] = some (.ret, [decide ((↑i : Int) < (↑(List.length qs) : Int)) = true, (0 : Int) ≤ (↑i : Int) ∧ (↑i : Int) < (↑(List.length qs) : Int), (AV.view 1 (List.length (List.getD qs (Int.toNat (↑i : Int)) dq0).1) fun i_1 => [AV.val (Value.string { data := List.toArray (List.getD (List.getD qs (Int.toNat (↑i : Int)) dq0).1 i_1 []) })]) = AV.view 1 (List.length (lsOf (AV.view 1 (List.length (List.getD qs (Int.toNat (↑i : Int)) dq0).1) fun i_1 => [AV.val (Value.string { data := List.toArray (List.getD (List.getD qs (Int.toNat (↑i : Int)) dq0).1 i_1 []) })]))) fun i_1 => [AV.val (Value.string { data := List.toArray (List.getD (lsOf (AV.view 1 (List.length (List.getD qs (Int.toNat (↑i : Int)) dq0).1) fun i_2 => [AV.val (Value.string { data := List.toArray (List.getD (List.getD qs (Int.toNat (↑i : Int)) dq0).1 i_2 []) })])) i_1 []) })], True, longN (lsOf (AV.view 1 (List.length (List.getD qs (Int.toNat (↑i : Int)) dq0).1) fun i_1 => [AV.val (Value.string { data := List.toArray (List.getD (List.getD qs (Int.toNat (↑i : Int)) dq0).1 i_1 []) })])) = true]) := by kernel_rfl

set_option maxRecDepth 100000 in
theorem grt_end (id : Int) (fl : Int) (qs : List DQ) (a : List DR) (o : List DR) (m : List DR) (i : Nat) : stepXS kGr [(62, { br := [(27, false)] })] Try.prog 62 4 (grtG id fl qs a o m i) (grtE) [] 0 [] = some (.exit 0, [decide ((↑i : Int) < (↑(List.length qs) : Int)) = false]) := by kernel_rfl
end Go.Proofs.Ytmilcpejchjleaa

/- Whether a message is more than is asked of: what the law's functions yield. -/
namespace Go.Proofs.Ytmilcpejchjleaa
open Go.RowKit
set_option linter.unusedSimpArgs false

theorem WR_fV (x : AV) : WR.fV x = ofVR x := rfl
theorem WQ_fV (x : AV) : WQ.fV x = ofVQ x := rfl
theorem long21_call (ls : List (List UInt8)) : ACall Try.prog 107 [vS ls] [] 0 (.val (.bool (longN ls))) [] 0 := by
  have hx : ∀ r, renL r [vS ls] = [vS ls] := fun r => rfl
  by_cases h2 : 200 < ls.length
  · have e : longN ls = true := by simp [longN, h2]
    rw [e]
    refine (outXS_ok noneKnown_ok (l1_many ls) ?_).lift hx [] 0
    repeat' (first | exact allNil | refine allCons ?_ ?_ | (with_reducible refine allRp _ ?_ ?_))
    all_goals first | (with_reducible rfl) | exact decide_eq_true (by omega)
  have e : longN ls = longR ls := by simp [longN, h2]
  rw [e]
  have h := any_loop (P := Try.prog) (c := loopAt Try.prog 107 4) (f := fun s : List UInt8 => decide (300 < s.length)) (ls := ls) (G := l1G ls) (E := l1E) (N := l1N)
    (fun i hi hf => stepXS_ok noneKnown_ok (l1_step ls i) (by
      have hg : ls.getD i [] = ls[i] := by rw [List.getD_eq_getElem?_getD, List.getElem?_eq_getElem hi]; rfl
      have hf' := of_decide_eq_false hf
      rw [hg]
      repeat' (first | exact allNil | refine allCons ?_ ?_ | (with_reducible refine allRp _ ?_ ?_))
      all_goals first | (with_reducible rfl) | exact decide_eq_true (by omega) | exact decide_eq_false (by omega) | exact sI_succ i (by omega) | omega))
    (fun i hi hf => stepXS_ok noneKnown_ok (l1_b ls i) (by
      have hg : ls.getD i [] = ls[i] := by rw [List.getD_eq_getElem?_getD, List.getElem?_eq_getElem hi]; rfl
      have hf' := of_decide_eq_true hf
      rw [hg]
      repeat' (first | exact allNil | refine allCons ?_ ?_ | (with_reducible refine allRp _ ?_ ?_))
      all_goals first | (with_reducible rfl) | exact decide_eq_true (by omega) | exact decide_eq_false (by omega) | omega))
    (fun i hi => stepXS_ok noneKnown_ok (l1_end ls i) (by
      repeat' (first | exact allNil | refine allCons ?_ ?_ | (with_reducible refine allRp _ ?_ ?_))
      all_goals first | (with_reducible rfl) | exact decide_eq_false (by omega))) ls 0 rfl
  unfold longR
  cases hg : ls.any fun s => decide (300 < s.length) with
  | true =>
    rw [hg] at h
    refine (outXS_ok noneKnown_ok (l1_yes ls) ?_).lift hx [] 0
    repeat' (first | exact allNil | refine allCons ?_ ?_ | (with_reducible refine allRp _ ?_ ?_))
    all_goals first | (with_reducible rfl) | exact decide_eq_false (by omega) | exact h
  | false =>
    rw [hg] at h
    refine (outXS_ok noneKnown_ok (l1_no ls) ?_).lift hx [] 0
    repeat' (first | exact allNil | refine allCons ?_ ?_ | (with_reducible refine allRp _ ?_ ?_))
    all_goals first | (with_reducible rfl) | exact decide_eq_false (by omega) | exact h
theorem kLong21_ok : InlOk Try.prog kLong21 := kPlain_ok fun ls _ => long21_call ls

theorem many_call (rs : List DR) : ACall Try.prog 106 [vR rs] [] 0 (.val (.bool (manN rs))) [] 0 := by
  have hx : ∀ r, renL r [vR rs] = [vR rs] := fun r => rfl
  have en := fun i => lsOf_vS (rs.getD i dr0).name
  unfold vS sStr at en
  by_cases h2 : 70 < rs.length
  · have e : manN rs = true := by simp [manN, h2]
    rw [e]
    refine (outXS_ok kLong21_ok (mn_many rs) ?_).lift hx [] 0
    repeat' (first | exact allNil | refine allCons ?_ ?_ | (with_reducible refine allRp _ ?_ ?_))
    all_goals first | (with_reducible rfl) | exact decide_eq_true (by omega)
  have e : manN rs = manR rs := by simp [manN, h2]
  rw [e]
  have hget : ∀ i (hi : i < rs.length), rs.getD i dr0 = rs[i] := fun i hi => by rw [List.getD_eq_getElem?_getD, List.getElem?_eq_getElem hi]; rfl
  have h := any_loop (P := Try.prog) (c := loopAt Try.prog 106 4) (f := fun r : DR => longN r.name || decide (2000 < r.data.length)) (ls := rs) (G := mnG rs) (E := mnE) (N := mnN)
    (fun i hi hf => stepXS_ok kLong21_ok (mn_step rs i) (by
      rw [Bool.or_eq_false_iff] at hf
      have hf1 := hf.1
      have hf2 := of_decide_eq_false hf.2
      rw [← hget i hi] at hf1 hf2
      simp only [Int.toNat_natCast, en]
      repeat' (first | exact allNil | refine allCons ?_ ?_ | (with_reducible refine allRp _ ?_ ?_))
      all_goals first | (with_reducible rfl) | exact hf1 | exact True.intro | exact decide_eq_true (by omega) | exact decide_eq_false (by omega) | exact sI_succ i (by omega) | omega))
    (fun i hi hf => by
      cases h1 : longN (rs.getD i dr0).name with
      | true =>
        exact stepXS_ok kLong21_ok (mn_b1 rs i) (by
          simp only [Int.toNat_natCast, en]
          repeat' (first | exact allNil | refine allCons ?_ ?_ | (with_reducible refine allRp _ ?_ ?_))
          all_goals first | (with_reducible rfl) | exact h1 | exact True.intro | exact decide_eq_true (by omega) | exact decide_eq_false (by omega) | omega)
      | false =>
        rw [← hget i hi, h1, Bool.false_or] at hf
        have hf2 := of_decide_eq_true hf
        exact stepXS_ok kLong21_ok (mn_b2 rs i) (by
          simp only [Int.toNat_natCast, en]
          repeat' (first | exact allNil | refine allCons ?_ ?_ | (with_reducible refine allRp _ ?_ ?_))
          all_goals first | (with_reducible rfl) | exact h1 | exact True.intro | exact decide_eq_true (by omega) | exact decide_eq_false (by omega) | omega))
    (fun i hi => stepXS_ok kLong21_ok (mn_end rs i) (by
      repeat' (first | exact allNil | refine allCons ?_ ?_ | (with_reducible refine allRp _ ?_ ?_))
      all_goals first | (with_reducible rfl) | exact decide_eq_false (by omega))) rs 0 rfl
  unfold manR
  cases hg : rs.any fun r => longN r.name || decide (2000 < r.data.length) with
  | true =>
    rw [hg] at h
    refine (outXS_ok kLong21_ok (mn_yes rs) ?_).lift hx [] 0
    repeat' (first | exact allNil | refine allCons ?_ ?_ | (with_reducible refine allRp _ ?_ ?_))
    all_goals first | (with_reducible rfl) | exact decide_eq_false (by omega) | exact h
  | false =>
    rw [hg] at h
    refine (outXS_ok kLong21_ok (mn_no rs) ?_).lift hx [] 0
    repeat' (first | exact allNil | refine allCons ?_ ?_ | (with_reducible refine allRp _ ?_ ?_))
    all_goals first | (with_reducible rfl) | exact decide_eq_false (by omega) | exact h
theorem kMany_ok : InlOk Try.prog kMany := WR.known_ok fun rs _ => many_call rs
theorem kGr_ok : InlOk Try.prog kGr := orInl_ok kMany_ok kLong21_ok

def grN (qs : List DQ) (a o m : List DR) : Bool := decide (70 < qs.length) || manN a || manN o || manN m || grR qs
theorem great_call (id fl : Int) (qs : List DQ) (a o m : List DR) : ACall Try.prog 62 [msgA id fl qs a o m] [] 0 (.val (.bool (grN qs a o m))) [] 0 := by
  have hx : ∀ r, renL r [msgA id fl qs a o m] = [msgA id fl qs a o m] := fun r => rfl
  have ea := ofVR_v a
  have eo := ofVR_v o
  have em := ofVR_v m
  have en := fun i => lsOf_vS (qs.getD i dq0).name
  unfold vS sStr at en
  by_cases h2 : 70 < qs.length
  · have e : grN qs a o m = true := by simp [grN, h2]
    rw [e]
    refine (outXS_ok kGr_ok (grt_q71 id fl qs a o m) ?_).lift hx [] 0
    repeat' (first | exact allNil | refine allCons ?_ ?_ | (with_reducible refine allRp _ ?_ ?_))
    all_goals first | (with_reducible rfl) | exact decide_eq_true (by omega)
  have hq : decide ((qs.length : Int) > (70 : Int)) = false := decide_eq_false (by omega)
  cases ha : manN a with
  | true =>
    have e : grN qs a o m = true := by simp [grN, ha]
    rw [e]
    refine (outXS_ok kGr_ok (grt_a id fl qs a o m) ?_).lift hx [] 0
    simp only [WR_fV, ea, eo, em]
    repeat' (first | exact allNil | refine allCons ?_ ?_ | (with_reducible refine allRp _ ?_ ?_))
    all_goals first | (with_reducible rfl) | exact hq | exact ha | exact True.intro
  | false =>
  cases ho : manN o with
  | true =>
    have e : grN qs a o m = true := by simp [grN, ho]
    rw [e]
    refine (outXS_ok kGr_ok (grt_o id fl qs a o m) ?_).lift hx [] 0
    simp only [WR_fV, ea, eo, em]
    repeat' (first | exact allNil | refine allCons ?_ ?_ | (with_reducible refine allRp _ ?_ ?_))
    all_goals first | (with_reducible rfl) | exact hq | exact ha | exact ho | exact True.intro
  | false =>
  cases hm : manN m with
  | true =>
    have e : grN qs a o m = true := by simp [grN, hm]
    rw [e]
    refine (outXS_ok kGr_ok (grt_m id fl qs a o m) ?_).lift hx [] 0
    simp only [WR_fV, ea, eo, em]
    repeat' (first | exact allNil | refine allCons ?_ ?_ | (with_reducible refine allRp _ ?_ ?_))
    all_goals first | (with_reducible rfl) | exact hq | exact ha | exact ho | exact hm | exact True.intro
  | false =>
  have e : grN qs a o m = grR qs := by simp [grN, ha, ho, hm, h2]
  rw [e]
  have hget : ∀ i (hi : i < qs.length), qs.getD i dq0 = qs[i] := fun i hi => by rw [List.getD_eq_getElem?_getD, List.getElem?_eq_getElem hi]; rfl
  have h := any_loop (P := Try.prog) (c := loopAt Try.prog 62 4) (f := fun q : DQ => longN q.name) (ls := qs) (G := grtG id fl qs a o m) (E := grtE) (N := grtN)
    (fun i hi hf => stepXS_ok kGr_ok (grt_step id fl qs a o m i) (by
      rw [← hget i hi] at hf
      simp only [Int.toNat_natCast, en]
      repeat' (first | exact allNil | refine allCons ?_ ?_ | (with_reducible refine allRp _ ?_ ?_))
      all_goals first | (with_reducible rfl) | exact hf | exact True.intro | exact decide_eq_true (by omega) | exact sI_succ i (by omega) | omega | exact rfl))
    (fun i hi hf => stepXS_ok kGr_ok (grt_b id fl qs a o m i) (by
      rw [← hget i hi] at hf
      simp only [Int.toNat_natCast, en]
      repeat' (first | exact allNil | refine allCons ?_ ?_ | (with_reducible refine allRp _ ?_ ?_))
      all_goals first | (with_reducible rfl) | exact hf | exact True.intro | exact decide_eq_true (by omega) | omega))
    (fun i hi => stepXS_ok kGr_ok (grt_end id fl qs a o m i) (by
      repeat' (first | exact allNil | refine allCons ?_ ?_ | (with_reducible refine allRp _ ?_ ?_))
      all_goals first | (with_reducible rfl) | exact decide_eq_false (by omega))) qs 0 rfl
  unfold grR
  cases hg : qs.any fun q => longN q.name with
  | true =>
    rw [hg] at h
    refine (outXS_ok kGr_ok (grt_yes id fl qs a o m) ?_).lift hx [] 0
    simp only [WR_fV, ea, eo, em]
    repeat' (first | exact allNil | refine allCons ?_ ?_ | (with_reducible refine allRp _ ?_ ?_))
    all_goals first | (with_reducible rfl) | exact hq | exact ha | exact ho | exact hm | exact True.intro | exact h | exact rfl
  | false =>
    rw [hg] at h
    refine (outXS_ok kGr_ok (grt_no id fl qs a o m) ?_).lift hx [] 0
    simp only [WR_fV, ea, eo, em]
    repeat' (first | exact allNil | refine allCons ?_ ?_ | (with_reducible refine allRp _ ?_ ?_))
    all_goals first | (with_reducible rfl) | exact hq | exact ha | exact ho | exact hm | exact True.intro | exact h | exact rfl
end Go.Proofs.Ytmilcpejchjleaa
