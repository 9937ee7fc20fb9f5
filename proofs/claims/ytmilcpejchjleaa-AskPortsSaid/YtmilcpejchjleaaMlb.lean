/- Several texts in one: Lb0, LbRun, Lb1, Lb. -/
import Derived.Test.YtmilcpejchjleaaMpu

/- A label's text: words. -/
namespace Go.Proofs.Ytmilcpejchjleaa
open Go.RowKit

def esc1 (c : UInt8) : List UInt8 := if c.toNat < 33 ∨ 126 < c.toNat ∨ c.toNat = 46 ∨ c.toNat = 92 then [92, UInt8.ofNat (48 + c.toNat / 100), UInt8.ofNat (48 + c.toNat / 10 % 10), UInt8.ofNat (48 + c.toNat % 10)] else [c]
def escL (s : List UInt8) : List UInt8 := s.flatMap esc1
def lbG0 (s : List UInt8) (i : Nat) : GoalX := { len := 48, tms := [(3, .val (.slice none 0 0))], opn := [(0, sStr s), (7, sI s.length), (8, sI i)] }
def lbG1 (s : List UInt8) (i : Nat) (a : List UInt8) : GoalX := { len := 48, opn := [(0, sStr s), (7, sI s.length), (8, sI i), (3, .sl 0 0 a.length none)], oob := [(0, puO a)], k := 1 }
def lbE0 : GoalX := { len := 48, tms := [(3, .val (.slice none 0 0))] }
def lbE1 (a : List UInt8) : GoalX := { len := 48, opn := [(3, .sl 0 0 a.length none)], oob := [(0, puO a)], k := 1 }
def lbL0 (s : List UInt8) : LoopX := { ids := [], G := lbG0 s 0, ex := .exit 0, E := lbE0 }
def lbL1 (s : List UInt8) : LoopX := { ids := [], G := lbG0 s 0, ex := .exit 0, E := lbE1 (escL s) }
end Go.Proofs.Ytmilcpejchjleaa

/- A label's text, reckoned. -/
namespace Go.Proofs.Ytmilcpejchjleaa
open Go.RowKit

set_option maxRecDepth 100000 in
theorem lab_0 (s : List UInt8) : outXS noneKnown [] Try.prog 84 [AV.val (Value.string { data := List.toArray s })] [] 0 [] [(3, lbL0 s)] =
   some (AV.val (Value.string { data := #[] }), [], 3,
   [AV.val (Value.string { data := List.toArray s }) = AV.val (Value.string { data := List.toArray s }),
   AV.val (Value.int IntKind.i64 (↑(List.length s) : Int)) = AV.val (Value.int IntKind.i64 (↑(List.length s) : Int)),
   AV.val (Value.int IntKind.i64 (0 : Int)) = AV.val (Value.int IntKind.i64 (0 : Int)),
   EvXL Try.prog 0 (loopAt Try.prog 84 3) (GoalX.st (LoopX.G (lbL0 s)) 0) (LoopX.ex (lbL0 s)) (GoalX.st (LoopX.E (lbL0 s)) 0)]) := by kernel_rfl

set_option maxRecDepth 100000 in
theorem lab_1 (s : List UInt8) : outXS noneKnown [(84, { ob := [(10, 1)] })] Try.prog 84 [AV.val (Value.string { data := List.toArray s })] [] 0 [] [(3, lbL1 s)] =
   some (AV.val (Value.string { data := List.toArray (List.take (List.length (escL s)) (escL s)) }), [], 4,
   [AV.val (Value.string { data := List.toArray s }) = AV.val (Value.string { data := List.toArray s }),
   AV.val (Value.int IntKind.i64 (↑(List.length s) : Int)) = AV.val (Value.int IntKind.i64 (↑(List.length s) : Int)),
   AV.val (Value.int IntKind.i64 (0 : Int)) = AV.val (Value.int IntKind.i64 (0 : Int)),
   EvXL Try.prog 0 (loopAt Try.prog 84 3) (GoalX.st (LoopX.G (lbL1 s)) 0) (LoopX.ex (lbL1 s)) (GoalX.st (LoopX.E (lbL1 s)) 0),
   (0 : Nat) + List.length (escL s) ≤ List.length (escL s)]) := by kernel_rfl

set_option maxRecDepth 100000 in
theorem lab_s0lo (s : List UInt8) (i : Nat) (a : List UInt8) : stepXS noneKnown [(84, { op := [(6, 5, .br true)], gd := [(6, 3, true), (6, 4, true)], br := [(9, true)], ob := [(5, 2), (7, 11)] })] Try.prog 84 3 (lbG0 s i) (lbG1 s (i + (1 : Nat)) a) [(33 : Nat)] 0 [] =
   some (.normal,
   [decide ((↑i : Int) < (↑(List.length s) : Int)) = true,
   (0 : Int) ≤ (↑i : Int) ∧ i < List.length s,
   decide ((↑(UInt8.toNat (List.getD s i (0 : UInt8))) : Int) < (33 : Int)) = true,
   decide ((↑(UInt8.toNat (List.getD s i (0 : UInt8))) : Int) < (33 : Int)) = true,
   decide ((↑(UInt8.toNat (List.getD s i (0 : UInt8))) : Int) < (33 : Int)) = true,
   ∀ (x : AV), x ∈ [AV.val (Value.int IntKind.u8 (92 : Int)), AV.val (Value.int IntKind.u8 (IntKind.wrap IntKind.u8 ((48 : Int) + IntKind.wrap IntKind.u8 (Int.tdiv (↑(UInt8.toNat (List.getD s i (0 : UInt8))) : Int) (100 : Int))))), AV.val (Value.int IntKind.u8 (IntKind.wrap IntKind.u8 ((48 : Int) + Int.tmod (IntKind.wrap IntKind.u8 (Int.tdiv (↑(UInt8.toNat (List.getD s i (0 : UInt8))) : Int) (10 : Int))) (10 : Int)))), AV.val (Value.int IntKind.u8 (IntKind.wrap IntKind.u8 ((48 : Int) + Int.tmod (↑(UInt8.toNat (List.getD s i (0 : UInt8))) : Int) (10 : Int))))] → isByteAV x,
   AV.val (Value.string { data := List.toArray s }) = AV.val (Value.string { data := List.toArray s }),
   AV.val (Value.int IntKind.i64 (↑(List.length s) : Int)) = AV.val (Value.int IntKind.i64 (↑(List.length s) : Int)),
   AV.val (Value.int IntKind.i64 (IntKind.wrap IntKind.i64 ((↑i : Int) + (1 : Int)))) = AV.val (Value.int IntKind.i64 (↑(i + (1 : Nat)) : Int)),
   AV.sl 33 (0 : Nat) (4 : Nat) none = AV.sl (33 : Nat) (0 : Nat) (List.length a) none,
   SameO (some { t := (5 : Nat), sz := (1 : Nat), exact := false, fz := false, body := Body.bytes [(92 : UInt8), UInt8.ofNat (Int.toNat (IntKind.wrap IntKind.u8 ((48 : Int) + IntKind.wrap IntKind.u8 (Int.tdiv (↑(UInt8.toNat (List.getD s i (0 : UInt8))) : Int) (100 : Int))))), UInt8.ofNat (Int.toNat (IntKind.wrap IntKind.u8 ((48 : Int) + Int.tmod (IntKind.wrap IntKind.u8 (Int.tdiv (↑(UInt8.toNat (List.getD s i (0 : UInt8))) : Int) (10 : Int))) (10 : Int)))), UInt8.ofNat (Int.toNat (IntKind.wrap IntKind.u8 ((48 : Int) + Int.tmod (↑(UInt8.toNat (List.getD s i (0 : UInt8))) : Int) (10 : Int))))] }) { t := (5 : Nat), sz := (1 : Nat), exact := false, fz := false, body := Body.bytes a }]) := by kernel_rfl

set_option maxRecDepth 100000 in
theorem lab_s1lo (s : List UInt8) (i : Nat) (a : List UInt8) (d : List UInt8) : stepXS noneKnown [(84, { op := [(6, 5, .br true)], gd := [(6, 3, true), (6, 4, true)], br := [(9, true)], ob := [(5, 2), (7, 11), (7, 12)] })] Try.prog 84 3 (lbG1 s i a) (lbG1 s (i + (1 : Nat)) d) [(34 : Nat)] 0 [] =
   some (.normal,
   [decide ((↑i : Int) < (↑(List.length s) : Int)) = true,
   (0 : Int) ≤ (↑i : Int) ∧ i < List.length s,
   decide ((↑(UInt8.toNat (List.getD s i (0 : UInt8))) : Int) < (33 : Int)) = true,
   decide ((↑(UInt8.toNat (List.getD s i (0 : UInt8))) : Int) < (33 : Int)) = true,
   decide ((↑(UInt8.toNat (List.getD s i (0 : UInt8))) : Int) < (33 : Int)) = true,
   ∀ (x : AV), x ∈ [AV.val (Value.int IntKind.u8 (92 : Int)), AV.val (Value.int IntKind.u8 (IntKind.wrap IntKind.u8 ((48 : Int) + IntKind.wrap IntKind.u8 (Int.tdiv (↑(UInt8.toNat (List.getD s i (0 : UInt8))) : Int) (100 : Int))))), AV.val (Value.int IntKind.u8 (IntKind.wrap IntKind.u8 ((48 : Int) + Int.tmod (IntKind.wrap IntKind.u8 (Int.tdiv (↑(UInt8.toNat (List.getD s i (0 : UInt8))) : Int) (10 : Int))) (10 : Int)))), AV.val (Value.int IntKind.u8 (IntKind.wrap IntKind.u8 ((48 : Int) + Int.tmod (↑(UInt8.toNat (List.getD s i (0 : UInt8))) : Int) (10 : Int))))] → isByteAV x,
   (4 : Nat) ≤ (4 : Nat),
   List.length a = List.length a ∧ List.length a + (4 : Nat) ≤ (1000000000 : Nat),
   AV.val (Value.string { data := List.toArray s }) = AV.val (Value.string { data := List.toArray s }),
   AV.val (Value.int IntKind.i64 (↑(List.length s) : Int)) = AV.val (Value.int IntKind.i64 (↑(List.length s) : Int)),
   AV.val (Value.int IntKind.i64 (IntKind.wrap IntKind.i64 ((↑i : Int) + (1 : Int)))) = AV.val (Value.int IntKind.i64 (↑(i + (1 : Nat)) : Int)),
   AV.sl 34 (0 : Nat) (List.length a + (4 : Nat)) none = AV.sl (34 : Nat) (0 : Nat) (List.length d) none,
   SameO (some { t := (5 : Nat), sz := (1 : Nat), exact := false, fz := false, body := Body.bytes (a ++ [(92 : UInt8), UInt8.ofNat (Int.toNat (IntKind.wrap IntKind.u8 ((48 : Int) + IntKind.wrap IntKind.u8 (Int.tdiv (↑(UInt8.toNat (List.getD s i (0 : UInt8))) : Int) (100 : Int))))), UInt8.ofNat (Int.toNat (IntKind.wrap IntKind.u8 ((48 : Int) + Int.tmod (IntKind.wrap IntKind.u8 (Int.tdiv (↑(UInt8.toNat (List.getD s i (0 : UInt8))) : Int) (10 : Int))) (10 : Int)))), UInt8.ofNat (Int.toNat (IntKind.wrap IntKind.u8 ((48 : Int) + Int.tmod (↑(UInt8.toNat (List.getD s i (0 : UInt8))) : Int) (10 : Int))))]) }) { t := (5 : Nat), sz := (1 : Nat), exact := false, fz := false, body := Body.bytes d }]) := by kernel_rfl

set_option maxRecDepth 100000 in
theorem lab_s0hi (s : List UInt8) (i : Nat) (a : List UInt8) : stepXS noneKnown [(84, { op := [(6, 5, .br false), (6, 9, .br true)], gd := [(6, 3, false), (6, 4, false), (6, 7, true), (6, 8, true)], br := [(9, true)], ob := [(5, 2), (7, 11)] })] Try.prog 84 3 (lbG0 s i) (lbG1 s (i + (1 : Nat)) a) [(33 : Nat)] 0 [] =
   some (.normal,
   [decide ((↑i : Int) < (↑(List.length s) : Int)) = true,
   (0 : Int) ≤ (↑i : Int) ∧ i < List.length s,
   decide ((↑(UInt8.toNat (List.getD s i (0 : UInt8))) : Int) < (33 : Int)) = false,
   decide ((↑(UInt8.toNat (List.getD s i (0 : UInt8))) : Int) < (33 : Int)) = false,
   decide ((↑(UInt8.toNat (List.getD s i (0 : UInt8))) : Int) < (33 : Int)) = false,
   decide ((↑(UInt8.toNat (List.getD s i (0 : UInt8))) : Int) > (126 : Int)) = true,
   decide ((↑(UInt8.toNat (List.getD s i (0 : UInt8))) : Int) > (126 : Int)) = true,
   decide ((↑(UInt8.toNat (List.getD s i (0 : UInt8))) : Int) > (126 : Int)) = true,
   ∀ (x : AV), x ∈ [AV.val (Value.int IntKind.u8 (92 : Int)), AV.val (Value.int IntKind.u8 (IntKind.wrap IntKind.u8 ((48 : Int) + IntKind.wrap IntKind.u8 (Int.tdiv (↑(UInt8.toNat (List.getD s i (0 : UInt8))) : Int) (100 : Int))))), AV.val (Value.int IntKind.u8 (IntKind.wrap IntKind.u8 ((48 : Int) + Int.tmod (IntKind.wrap IntKind.u8 (Int.tdiv (↑(UInt8.toNat (List.getD s i (0 : UInt8))) : Int) (10 : Int))) (10 : Int)))), AV.val (Value.int IntKind.u8 (IntKind.wrap IntKind.u8 ((48 : Int) + Int.tmod (↑(UInt8.toNat (List.getD s i (0 : UInt8))) : Int) (10 : Int))))] → isByteAV x,
   AV.val (Value.string { data := List.toArray s }) = AV.val (Value.string { data := List.toArray s }),
   AV.val (Value.int IntKind.i64 (↑(List.length s) : Int)) = AV.val (Value.int IntKind.i64 (↑(List.length s) : Int)),
   AV.val (Value.int IntKind.i64 (IntKind.wrap IntKind.i64 ((↑i : Int) + (1 : Int)))) = AV.val (Value.int IntKind.i64 (↑(i + (1 : Nat)) : Int)),
   AV.sl 33 (0 : Nat) (4 : Nat) none = AV.sl (33 : Nat) (0 : Nat) (List.length a) none,
   SameO (some { t := (5 : Nat), sz := (1 : Nat), exact := false, fz := false, body := Body.bytes [(92 : UInt8), UInt8.ofNat (Int.toNat (IntKind.wrap IntKind.u8 ((48 : Int) + IntKind.wrap IntKind.u8 (Int.tdiv (↑(UInt8.toNat (List.getD s i (0 : UInt8))) : Int) (100 : Int))))), UInt8.ofNat (Int.toNat (IntKind.wrap IntKind.u8 ((48 : Int) + Int.tmod (IntKind.wrap IntKind.u8 (Int.tdiv (↑(UInt8.toNat (List.getD s i (0 : UInt8))) : Int) (10 : Int))) (10 : Int)))), UInt8.ofNat (Int.toNat (IntKind.wrap IntKind.u8 ((48 : Int) + Int.tmod (↑(UInt8.toNat (List.getD s i (0 : UInt8))) : Int) (10 : Int))))] }) { t := (5 : Nat), sz := (1 : Nat), exact := false, fz := false, body := Body.bytes a }]) := by kernel_rfl

set_option maxRecDepth 100000 in
theorem lab_s1hi (s : List UInt8) (i : Nat) (a : List UInt8) (d : List UInt8) : stepXS noneKnown [(84, { op := [(6, 5, .br false), (6, 9, .br true)], gd := [(6, 3, false), (6, 4, false), (6, 7, true), (6, 8, true)], br := [(9, true)], ob := [(5, 2), (7, 11), (7, 12)] })] Try.prog 84 3 (lbG1 s i a) (lbG1 s (i + (1 : Nat)) d) [(34 : Nat)] 0 [] =
   some (.normal,
   [decide ((↑i : Int) < (↑(List.length s) : Int)) = true,
   (0 : Int) ≤ (↑i : Int) ∧ i < List.length s,
   decide ((↑(UInt8.toNat (List.getD s i (0 : UInt8))) : Int) < (33 : Int)) = false,
   decide ((↑(UInt8.toNat (List.getD s i (0 : UInt8))) : Int) < (33 : Int)) = false,
   decide ((↑(UInt8.toNat (List.getD s i (0 : UInt8))) : Int) < (33 : Int)) = false,
   decide ((↑(UInt8.toNat (List.getD s i (0 : UInt8))) : Int) > (126 : Int)) = true,
   decide ((↑(UInt8.toNat (List.getD s i (0 : UInt8))) : Int) > (126 : Int)) = true,
   decide ((↑(UInt8.toNat (List.getD s i (0 : UInt8))) : Int) > (126 : Int)) = true,
   ∀ (x : AV), x ∈ [AV.val (Value.int IntKind.u8 (92 : Int)), AV.val (Value.int IntKind.u8 (IntKind.wrap IntKind.u8 ((48 : Int) + IntKind.wrap IntKind.u8 (Int.tdiv (↑(UInt8.toNat (List.getD s i (0 : UInt8))) : Int) (100 : Int))))), AV.val (Value.int IntKind.u8 (IntKind.wrap IntKind.u8 ((48 : Int) + Int.tmod (IntKind.wrap IntKind.u8 (Int.tdiv (↑(UInt8.toNat (List.getD s i (0 : UInt8))) : Int) (10 : Int))) (10 : Int)))), AV.val (Value.int IntKind.u8 (IntKind.wrap IntKind.u8 ((48 : Int) + Int.tmod (↑(UInt8.toNat (List.getD s i (0 : UInt8))) : Int) (10 : Int))))] → isByteAV x,
   (4 : Nat) ≤ (4 : Nat),
   List.length a = List.length a ∧ List.length a + (4 : Nat) ≤ (1000000000 : Nat),
   AV.val (Value.string { data := List.toArray s }) = AV.val (Value.string { data := List.toArray s }),
   AV.val (Value.int IntKind.i64 (↑(List.length s) : Int)) = AV.val (Value.int IntKind.i64 (↑(List.length s) : Int)),
   AV.val (Value.int IntKind.i64 (IntKind.wrap IntKind.i64 ((↑i : Int) + (1 : Int)))) = AV.val (Value.int IntKind.i64 (↑(i + (1 : Nat)) : Int)),
   AV.sl 34 (0 : Nat) (List.length a + (4 : Nat)) none = AV.sl (34 : Nat) (0 : Nat) (List.length d) none,
   SameO (some { t := (5 : Nat), sz := (1 : Nat), exact := false, fz := false, body := Body.bytes (a ++ [(92 : UInt8), UInt8.ofNat (Int.toNat (IntKind.wrap IntKind.u8 ((48 : Int) + IntKind.wrap IntKind.u8 (Int.tdiv (↑(UInt8.toNat (List.getD s i (0 : UInt8))) : Int) (100 : Int))))), UInt8.ofNat (Int.toNat (IntKind.wrap IntKind.u8 ((48 : Int) + Int.tmod (IntKind.wrap IntKind.u8 (Int.tdiv (↑(UInt8.toNat (List.getD s i (0 : UInt8))) : Int) (10 : Int))) (10 : Int)))), UInt8.ofNat (Int.toNat (IntKind.wrap IntKind.u8 ((48 : Int) + Int.tmod (↑(UInt8.toNat (List.getD s i (0 : UInt8))) : Int) (10 : Int))))]) }) { t := (5 : Nat), sz := (1 : Nat), exact := false, fz := false, body := Body.bytes d }]) := by kernel_rfl

set_option maxRecDepth 100000 in
theorem lab_s0dot (s : List UInt8) (i : Nat) (a : List UInt8) : stepXS noneKnown [(84, { op := [(6, 5, .br false), (6, 9, .br false), (6, 13, .br true)], gd := [(6, 3, false), (6, 4, false), (6, 7, false), (6, 8, false), (6, 11, true), (6, 12, true)], br := [(9, true)], ob := [(5, 2), (7, 11)] })] Try.prog 84 3 (lbG0 s i) (lbG1 s (i + (1 : Nat)) a) [(33 : Nat)] 0 [] =
   some (.normal,
   [decide ((↑i : Int) < (↑(List.length s) : Int)) = true,
   (0 : Int) ≤ (↑i : Int) ∧ i < List.length s,
   decide ((↑(UInt8.toNat (List.getD s i (0 : UInt8))) : Int) < (33 : Int)) = false,
   decide ((↑(UInt8.toNat (List.getD s i (0 : UInt8))) : Int) < (33 : Int)) = false,
   decide ((↑(UInt8.toNat (List.getD s i (0 : UInt8))) : Int) < (33 : Int)) = false,
   decide ((↑(UInt8.toNat (List.getD s i (0 : UInt8))) : Int) > (126 : Int)) = false,
   decide ((↑(UInt8.toNat (List.getD s i (0 : UInt8))) : Int) > (126 : Int)) = false,
   decide ((↑(UInt8.toNat (List.getD s i (0 : UInt8))) : Int) > (126 : Int)) = false,
   ((↑(UInt8.toNat (List.getD s i (0 : UInt8))) : Int) == (46 : Int)) = true,
   ((↑(UInt8.toNat (List.getD s i (0 : UInt8))) : Int) == (46 : Int)) = true,
   ((↑(UInt8.toNat (List.getD s i (0 : UInt8))) : Int) == (46 : Int)) = true,
   ∀ (x : AV), x ∈ [AV.val (Value.int IntKind.u8 (92 : Int)), AV.val (Value.int IntKind.u8 (IntKind.wrap IntKind.u8 ((48 : Int) + IntKind.wrap IntKind.u8 (Int.tdiv (↑(UInt8.toNat (List.getD s i (0 : UInt8))) : Int) (100 : Int))))), AV.val (Value.int IntKind.u8 (IntKind.wrap IntKind.u8 ((48 : Int) + Int.tmod (IntKind.wrap IntKind.u8 (Int.tdiv (↑(UInt8.toNat (List.getD s i (0 : UInt8))) : Int) (10 : Int))) (10 : Int)))), AV.val (Value.int IntKind.u8 (IntKind.wrap IntKind.u8 ((48 : Int) + Int.tmod (↑(UInt8.toNat (List.getD s i (0 : UInt8))) : Int) (10 : Int))))] → isByteAV x,
   AV.val (Value.string { data := List.toArray s }) = AV.val (Value.string { data := List.toArray s }),
   AV.val (Value.int IntKind.i64 (↑(List.length s) : Int)) = AV.val (Value.int IntKind.i64 (↑(List.length s) : Int)),
   AV.val (Value.int IntKind.i64 (IntKind.wrap IntKind.i64 ((↑i : Int) + (1 : Int)))) = AV.val (Value.int IntKind.i64 (↑(i + (1 : Nat)) : Int)),
   AV.sl 33 (0 : Nat) (4 : Nat) none = AV.sl (33 : Nat) (0 : Nat) (List.length a) none,
   SameO (some { t := (5 : Nat), sz := (1 : Nat), exact := false, fz := false, body := Body.bytes [(92 : UInt8), UInt8.ofNat (Int.toNat (IntKind.wrap IntKind.u8 ((48 : Int) + IntKind.wrap IntKind.u8 (Int.tdiv (↑(UInt8.toNat (List.getD s i (0 : UInt8))) : Int) (100 : Int))))), UInt8.ofNat (Int.toNat (IntKind.wrap IntKind.u8 ((48 : Int) + Int.tmod (IntKind.wrap IntKind.u8 (Int.tdiv (↑(UInt8.toNat (List.getD s i (0 : UInt8))) : Int) (10 : Int))) (10 : Int)))), UInt8.ofNat (Int.toNat (IntKind.wrap IntKind.u8 ((48 : Int) + Int.tmod (↑(UInt8.toNat (List.getD s i (0 : UInt8))) : Int) (10 : Int))))] }) { t := (5 : Nat), sz := (1 : Nat), exact := false, fz := false, body := Body.bytes a }]) := by kernel_rfl

set_option maxRecDepth 100000 in
theorem lab_s1dot (s : List UInt8) (i : Nat) (a : List UInt8) (d : List UInt8) : stepXS noneKnown [(84, { op := [(6, 5, .br false), (6, 9, .br false), (6, 13, .br true)], gd := [(6, 3, false), (6, 4, false), (6, 7, false), (6, 8, false), (6, 11, true), (6, 12, true)], br := [(9, true)], ob := [(5, 2), (7, 11), (7, 12)] })] Try.prog 84 3 (lbG1 s i a) (lbG1 s (i + (1 : Nat)) d) [(34 : Nat)] 0 [] =
   some (.normal,
   [decide ((↑i : Int) < (↑(List.length s) : Int)) = true,
   (0 : Int) ≤ (↑i : Int) ∧ i < List.length s,
   decide ((↑(UInt8.toNat (List.getD s i (0 : UInt8))) : Int) < (33 : Int)) = false,
   decide ((↑(UInt8.toNat (List.getD s i (0 : UInt8))) : Int) < (33 : Int)) = false,
   decide ((↑(UInt8.toNat (List.getD s i (0 : UInt8))) : Int) < (33 : Int)) = false,
   decide ((↑(UInt8.toNat (List.getD s i (0 : UInt8))) : Int) > (126 : Int)) = false,
   decide ((↑(UInt8.toNat (List.getD s i (0 : UInt8))) : Int) > (126 : Int)) = false,
   decide ((↑(UInt8.toNat (List.getD s i (0 : UInt8))) : Int) > (126 : Int)) = false,
   ((↑(UInt8.toNat (List.getD s i (0 : UInt8))) : Int) == (46 : Int)) = true,
   ((↑(UInt8.toNat (List.getD s i (0 : UInt8))) : Int) == (46 : Int)) = true,
   ((↑(UInt8.toNat (List.getD s i (0 : UInt8))) : Int) == (46 : Int)) = true,
   ∀ (x : AV), x ∈ [AV.val (Value.int IntKind.u8 (92 : Int)), AV.val (Value.int IntKind.u8 (IntKind.wrap IntKind.u8 ((48 : Int) + IntKind.wrap IntKind.u8 (Int.tdiv (↑(UInt8.toNat (List.getD s i (0 : UInt8))) : Int) (100 : Int))))), AV.val (Value.int IntKind.u8 (IntKind.wrap IntKind.u8 ((48 : Int) + Int.tmod (IntKind.wrap IntKind.u8 (Int.tdiv (↑(UInt8.toNat (List.getD s i (0 : UInt8))) : Int) (10 : Int))) (10 : Int)))), AV.val (Value.int IntKind.u8 (IntKind.wrap IntKind.u8 ((48 : Int) + Int.tmod (↑(UInt8.toNat (List.getD s i (0 : UInt8))) : Int) (10 : Int))))] → isByteAV x,
   (4 : Nat) ≤ (4 : Nat),
   List.length a = List.length a ∧ List.length a + (4 : Nat) ≤ (1000000000 : Nat),
   AV.val (Value.string { data := List.toArray s }) = AV.val (Value.string { data := List.toArray s }),
   AV.val (Value.int IntKind.i64 (↑(List.length s) : Int)) = AV.val (Value.int IntKind.i64 (↑(List.length s) : Int)),
   AV.val (Value.int IntKind.i64 (IntKind.wrap IntKind.i64 ((↑i : Int) + (1 : Int)))) = AV.val (Value.int IntKind.i64 (↑(i + (1 : Nat)) : Int)),
   AV.sl 34 (0 : Nat) (List.length a + (4 : Nat)) none = AV.sl (34 : Nat) (0 : Nat) (List.length d) none,
   SameO (some { t := (5 : Nat), sz := (1 : Nat), exact := false, fz := false, body := Body.bytes (a ++ [(92 : UInt8), UInt8.ofNat (Int.toNat (IntKind.wrap IntKind.u8 ((48 : Int) + IntKind.wrap IntKind.u8 (Int.tdiv (↑(UInt8.toNat (List.getD s i (0 : UInt8))) : Int) (100 : Int))))), UInt8.ofNat (Int.toNat (IntKind.wrap IntKind.u8 ((48 : Int) + Int.tmod (IntKind.wrap IntKind.u8 (Int.tdiv (↑(UInt8.toNat (List.getD s i (0 : UInt8))) : Int) (10 : Int))) (10 : Int)))), UInt8.ofNat (Int.toNat (IntKind.wrap IntKind.u8 ((48 : Int) + Int.tmod (↑(UInt8.toNat (List.getD s i (0 : UInt8))) : Int) (10 : Int))))]) }) { t := (5 : Nat), sz := (1 : Nat), exact := false, fz := false, body := Body.bytes d }]) := by kernel_rfl

set_option maxRecDepth 100000 in
theorem lab_s0bs (s : List UInt8) (i : Nat) (a : List UInt8) : stepXS noneKnown [(84, { op := [(6, 5, .br false), (6, 9, .br false), (6, 13, .br false)], gd := [(6, 3, false), (6, 4, false), (6, 7, false), (6, 8, false), (6, 11, false), (6, 12, false)], br := [(9, true), (27, true)], ob := [(5, 2), (7, 11)] })] Try.prog 84 3 (lbG0 s i) (lbG1 s (i + (1 : Nat)) a) [(33 : Nat)] 0 [] =
   some (.normal,
   [decide ((↑i : Int) < (↑(List.length s) : Int)) = true,
   (0 : Int) ≤ (↑i : Int) ∧ i < List.length s,
   decide ((↑(UInt8.toNat (List.getD s i (0 : UInt8))) : Int) < (33 : Int)) = false,
   decide ((↑(UInt8.toNat (List.getD s i (0 : UInt8))) : Int) < (33 : Int)) = false,
   decide ((↑(UInt8.toNat (List.getD s i (0 : UInt8))) : Int) < (33 : Int)) = false,
   decide ((↑(UInt8.toNat (List.getD s i (0 : UInt8))) : Int) > (126 : Int)) = false,
   decide ((↑(UInt8.toNat (List.getD s i (0 : UInt8))) : Int) > (126 : Int)) = false,
   decide ((↑(UInt8.toNat (List.getD s i (0 : UInt8))) : Int) > (126 : Int)) = false,
   ((↑(UInt8.toNat (List.getD s i (0 : UInt8))) : Int) == (46 : Int)) = false,
   ((↑(UInt8.toNat (List.getD s i (0 : UInt8))) : Int) == (46 : Int)) = false,
   ((↑(UInt8.toNat (List.getD s i (0 : UInt8))) : Int) == (46 : Int)) = false,
   ((↑(UInt8.toNat (List.getD s i (0 : UInt8))) : Int) == (92 : Int)) = true,
   ∀ (x : AV), x ∈ [AV.val (Value.int IntKind.u8 (92 : Int)), AV.val (Value.int IntKind.u8 (IntKind.wrap IntKind.u8 ((48 : Int) + IntKind.wrap IntKind.u8 (Int.tdiv (↑(UInt8.toNat (List.getD s i (0 : UInt8))) : Int) (100 : Int))))), AV.val (Value.int IntKind.u8 (IntKind.wrap IntKind.u8 ((48 : Int) + Int.tmod (IntKind.wrap IntKind.u8 (Int.tdiv (↑(UInt8.toNat (List.getD s i (0 : UInt8))) : Int) (10 : Int))) (10 : Int)))), AV.val (Value.int IntKind.u8 (IntKind.wrap IntKind.u8 ((48 : Int) + Int.tmod (↑(UInt8.toNat (List.getD s i (0 : UInt8))) : Int) (10 : Int))))] → isByteAV x,
   AV.val (Value.string { data := List.toArray s }) = AV.val (Value.string { data := List.toArray s }),
   AV.val (Value.int IntKind.i64 (↑(List.length s) : Int)) = AV.val (Value.int IntKind.i64 (↑(List.length s) : Int)),
   AV.val (Value.int IntKind.i64 (IntKind.wrap IntKind.i64 ((↑i : Int) + (1 : Int)))) = AV.val (Value.int IntKind.i64 (↑(i + (1 : Nat)) : Int)),
   AV.sl 33 (0 : Nat) (4 : Nat) none = AV.sl (33 : Nat) (0 : Nat) (List.length a) none,
   SameO (some { t := (5 : Nat), sz := (1 : Nat), exact := false, fz := false, body := Body.bytes [(92 : UInt8), UInt8.ofNat (Int.toNat (IntKind.wrap IntKind.u8 ((48 : Int) + IntKind.wrap IntKind.u8 (Int.tdiv (↑(UInt8.toNat (List.getD s i (0 : UInt8))) : Int) (100 : Int))))), UInt8.ofNat (Int.toNat (IntKind.wrap IntKind.u8 ((48 : Int) + Int.tmod (IntKind.wrap IntKind.u8 (Int.tdiv (↑(UInt8.toNat (List.getD s i (0 : UInt8))) : Int) (10 : Int))) (10 : Int)))), UInt8.ofNat (Int.toNat (IntKind.wrap IntKind.u8 ((48 : Int) + Int.tmod (↑(UInt8.toNat (List.getD s i (0 : UInt8))) : Int) (10 : Int))))] }) { t := (5 : Nat), sz := (1 : Nat), exact := false, fz := false, body := Body.bytes a }]) := by kernel_rfl

set_option maxRecDepth 100000 in
theorem lab_s1bs (s : List UInt8) (i : Nat) (a : List UInt8) (d : List UInt8) : stepXS noneKnown [(84, { op := [(6, 5, .br false), (6, 9, .br false), (6, 13, .br false)], gd := [(6, 3, false), (6, 4, false), (6, 7, false), (6, 8, false), (6, 11, false), (6, 12, false)], br := [(9, true), (27, true)], ob := [(5, 2), (7, 11), (7, 12)] })] Try.prog 84 3 (lbG1 s i a) (lbG1 s (i + (1 : Nat)) d) [(34 : Nat)] 0 [] =
   some (.normal,
   [decide ((↑i : Int) < (↑(List.length s) : Int)) = true,
   (0 : Int) ≤ (↑i : Int) ∧ i < List.length s,
   decide ((↑(UInt8.toNat (List.getD s i (0 : UInt8))) : Int) < (33 : Int)) = false,
   decide ((↑(UInt8.toNat (List.getD s i (0 : UInt8))) : Int) < (33 : Int)) = false,
   decide ((↑(UInt8.toNat (List.getD s i (0 : UInt8))) : Int) < (33 : Int)) = false,
   decide ((↑(UInt8.toNat (List.getD s i (0 : UInt8))) : Int) > (126 : Int)) = false,
   decide ((↑(UInt8.toNat (List.getD s i (0 : UInt8))) : Int) > (126 : Int)) = false,
   decide ((↑(UInt8.toNat (List.getD s i (0 : UInt8))) : Int) > (126 : Int)) = false,
   ((↑(UInt8.toNat (List.getD s i (0 : UInt8))) : Int) == (46 : Int)) = false,
   ((↑(UInt8.toNat (List.getD s i (0 : UInt8))) : Int) == (46 : Int)) = false,
   ((↑(UInt8.toNat (List.getD s i (0 : UInt8))) : Int) == (46 : Int)) = false,
   ((↑(UInt8.toNat (List.getD s i (0 : UInt8))) : Int) == (92 : Int)) = true,
   ∀ (x : AV), x ∈ [AV.val (Value.int IntKind.u8 (92 : Int)), AV.val (Value.int IntKind.u8 (IntKind.wrap IntKind.u8 ((48 : Int) + IntKind.wrap IntKind.u8 (Int.tdiv (↑(UInt8.toNat (List.getD s i (0 : UInt8))) : Int) (100 : Int))))), AV.val (Value.int IntKind.u8 (IntKind.wrap IntKind.u8 ((48 : Int) + Int.tmod (IntKind.wrap IntKind.u8 (Int.tdiv (↑(UInt8.toNat (List.getD s i (0 : UInt8))) : Int) (10 : Int))) (10 : Int)))), AV.val (Value.int IntKind.u8 (IntKind.wrap IntKind.u8 ((48 : Int) + Int.tmod (↑(UInt8.toNat (List.getD s i (0 : UInt8))) : Int) (10 : Int))))] → isByteAV x,
   (4 : Nat) ≤ (4 : Nat),
   List.length a = List.length a ∧ List.length a + (4 : Nat) ≤ (1000000000 : Nat),
   AV.val (Value.string { data := List.toArray s }) = AV.val (Value.string { data := List.toArray s }),
   AV.val (Value.int IntKind.i64 (↑(List.length s) : Int)) = AV.val (Value.int IntKind.i64 (↑(List.length s) : Int)),
   AV.val (Value.int IntKind.i64 (IntKind.wrap IntKind.i64 ((↑i : Int) + (1 : Int)))) = AV.val (Value.int IntKind.i64 (↑(i + (1 : Nat)) : Int)),
   AV.sl 34 (0 : Nat) (List.length a + (4 : Nat)) none = AV.sl (34 : Nat) (0 : Nat) (List.length d) none,
   SameO (some { t := (5 : Nat), sz := (1 : Nat), exact := false, fz := false, body := Body.bytes (a ++ [(92 : UInt8), UInt8.ofNat (Int.toNat (IntKind.wrap IntKind.u8 ((48 : Int) + IntKind.wrap IntKind.u8 (Int.tdiv (↑(UInt8.toNat (List.getD s i (0 : UInt8))) : Int) (100 : Int))))), UInt8.ofNat (Int.toNat (IntKind.wrap IntKind.u8 ((48 : Int) + Int.tmod (IntKind.wrap IntKind.u8 (Int.tdiv (↑(UInt8.toNat (List.getD s i (0 : UInt8))) : Int) (10 : Int))) (10 : Int)))), UInt8.ofNat (Int.toNat (IntKind.wrap IntKind.u8 ((48 : Int) + Int.tmod (↑(UInt8.toNat (List.getD s i (0 : UInt8))) : Int) (10 : Int))))]) }) { t := (5 : Nat), sz := (1 : Nat), exact := false, fz := false, body := Body.bytes d }]) := by kernel_rfl

set_option maxRecDepth 100000 in
theorem lab_s0pl (s : List UInt8) (i : Nat) (a : List UInt8) : stepXS noneKnown [(84, { op := [(6, 5, .br false), (6, 9, .br false), (6, 13, .br false)], gd := [(6, 3, false), (6, 4, false), (6, 7, false), (6, 8, false), (6, 11, false), (6, 12, false)], br := [(9, true), (27, false)], ob := [(5, 2), (8, 2)] })] Try.prog 84 3 (lbG0 s i) (lbG1 s (i + (1 : Nat)) a) [(24 : Nat)] 0 [] =
   some (.normal,
   [decide ((↑i : Int) < (↑(List.length s) : Int)) = true,
   (0 : Int) ≤ (↑i : Int) ∧ i < List.length s,
   decide ((↑(UInt8.toNat (List.getD s i (0 : UInt8))) : Int) < (33 : Int)) = false,
   decide ((↑(UInt8.toNat (List.getD s i (0 : UInt8))) : Int) < (33 : Int)) = false,
   decide ((↑(UInt8.toNat (List.getD s i (0 : UInt8))) : Int) < (33 : Int)) = false,
   decide ((↑(UInt8.toNat (List.getD s i (0 : UInt8))) : Int) > (126 : Int)) = false,
   decide ((↑(UInt8.toNat (List.getD s i (0 : UInt8))) : Int) > (126 : Int)) = false,
   decide ((↑(UInt8.toNat (List.getD s i (0 : UInt8))) : Int) > (126 : Int)) = false,
   ((↑(UInt8.toNat (List.getD s i (0 : UInt8))) : Int) == (46 : Int)) = false,
   ((↑(UInt8.toNat (List.getD s i (0 : UInt8))) : Int) == (46 : Int)) = false,
   ((↑(UInt8.toNat (List.getD s i (0 : UInt8))) : Int) == (46 : Int)) = false,
   ((↑(UInt8.toNat (List.getD s i (0 : UInt8))) : Int) == (92 : Int)) = false,
   ∀ (x : AV), x ∈ [AV.val (Value.int IntKind.u8 (↑(UInt8.toNat (List.getD s i (0 : UInt8))) : Int))] → isByteAV x,
   AV.val (Value.string { data := List.toArray s }) = AV.val (Value.string { data := List.toArray s }),
   AV.val (Value.int IntKind.i64 (↑(List.length s) : Int)) = AV.val (Value.int IntKind.i64 (↑(List.length s) : Int)),
   AV.val (Value.int IntKind.i64 (IntKind.wrap IntKind.i64 ((↑i : Int) + (1 : Int)))) = AV.val (Value.int IntKind.i64 (↑(i + (1 : Nat)) : Int)),
   AV.sl 24 (0 : Nat) (1 : Nat) none = AV.sl (24 : Nat) (0 : Nat) (List.length a) none,
   SameO (some { t := (5 : Nat), sz := (1 : Nat), exact := false, fz := false, body := Body.bytes [UInt8.ofNat (UInt8.toNat (List.getD s i (0 : UInt8)))] }) { t := (5 : Nat), sz := (1 : Nat), exact := false, fz := false, body := Body.bytes a }]) := by kernel_rfl

set_option maxRecDepth 100000 in
theorem lab_s1pl (s : List UInt8) (i : Nat) (a : List UInt8) (d : List UInt8) : stepXS noneKnown [(84, { op := [(6, 5, .br false), (6, 9, .br false), (6, 13, .br false)], gd := [(6, 3, false), (6, 4, false), (6, 7, false), (6, 8, false), (6, 11, false), (6, 12, false)], br := [(9, true), (27, false)], ob := [(5, 2), (8, 2), (8, 3)] })] Try.prog 84 3 (lbG1 s i a) (lbG1 s (i + (1 : Nat)) d) [(25 : Nat)] 0 [] =
   some (.normal,
   [decide ((↑i : Int) < (↑(List.length s) : Int)) = true,
   (0 : Int) ≤ (↑i : Int) ∧ i < List.length s,
   decide ((↑(UInt8.toNat (List.getD s i (0 : UInt8))) : Int) < (33 : Int)) = false,
   decide ((↑(UInt8.toNat (List.getD s i (0 : UInt8))) : Int) < (33 : Int)) = false,
   decide ((↑(UInt8.toNat (List.getD s i (0 : UInt8))) : Int) < (33 : Int)) = false,
   decide ((↑(UInt8.toNat (List.getD s i (0 : UInt8))) : Int) > (126 : Int)) = false,
   decide ((↑(UInt8.toNat (List.getD s i (0 : UInt8))) : Int) > (126 : Int)) = false,
   decide ((↑(UInt8.toNat (List.getD s i (0 : UInt8))) : Int) > (126 : Int)) = false,
   ((↑(UInt8.toNat (List.getD s i (0 : UInt8))) : Int) == (46 : Int)) = false,
   ((↑(UInt8.toNat (List.getD s i (0 : UInt8))) : Int) == (46 : Int)) = false,
   ((↑(UInt8.toNat (List.getD s i (0 : UInt8))) : Int) == (46 : Int)) = false,
   ((↑(UInt8.toNat (List.getD s i (0 : UInt8))) : Int) == (92 : Int)) = false,
   ∀ (x : AV), x ∈ [AV.val (Value.int IntKind.u8 (↑(UInt8.toNat (List.getD s i (0 : UInt8))) : Int))] → isByteAV x,
   (1 : Nat) ≤ (1 : Nat),
   List.length a = List.length a ∧ List.length a + (1 : Nat) ≤ (1000000000 : Nat),
   AV.val (Value.string { data := List.toArray s }) = AV.val (Value.string { data := List.toArray s }),
   AV.val (Value.int IntKind.i64 (↑(List.length s) : Int)) = AV.val (Value.int IntKind.i64 (↑(List.length s) : Int)),
   AV.val (Value.int IntKind.i64 (IntKind.wrap IntKind.i64 ((↑i : Int) + (1 : Int)))) = AV.val (Value.int IntKind.i64 (↑(i + (1 : Nat)) : Int)),
   AV.sl 25 (0 : Nat) (List.length a + (1 : Nat)) none = AV.sl (25 : Nat) (0 : Nat) (List.length d) none,
   SameO (some { t := (5 : Nat), sz := (1 : Nat), exact := false, fz := false, body := Body.bytes (a ++ [UInt8.ofNat (UInt8.toNat (List.getD s i (0 : UInt8)))]) }) { t := (5 : Nat), sz := (1 : Nat), exact := false, fz := false, body := Body.bytes d }]) := by kernel_rfl

set_option maxRecDepth 100000 in
theorem lab_e0 (s : List UInt8) (i : Nat) : stepXS noneKnown [(84, { br := [(9, false)] })] Try.prog 84 3 (lbG0 s i) (lbE0) [] 0 [] =
   some (.exit 0,
   [decide ((↑i : Int) < (↑(List.length s) : Int)) = false]) := by kernel_rfl

set_option maxRecDepth 100000 in
theorem lab_e1 (s : List UInt8) (i : Nat) (a : List UInt8) : stepXS noneKnown [(84, { br := [(9, false)] })] Try.prog 84 3 (lbG1 s i a) (lbE1 a) [(0 : Nat)] 0 [] =
   some (.exit 0,
   [decide ((↑i : Int) < (↑(List.length s) : Int)) = false,
   AV.sl (0 : Nat) (0 : Nat) (List.length a) none = AV.sl (0 : Nat) (0 : Nat) (List.length a) none,
   SameO (some { t := (5 : Nat), sz := (1 : Nat), exact := false, fz := false, body := Body.bytes a }) { t := (5 : Nat), sz := (1 : Nat), exact := false, fz := false, body := Body.bytes a }]) := by kernel_rfl
end Go.Proofs.Ytmilcpejchjleaa

/- A label's text: what the program's function yields. -/
namespace Go.Proofs.Ytmilcpejchjleaa
open Go.RowKit
set_option linter.unusedSimpArgs false



theorem esc_a (c : Nat) (h : c < 256) : Int.toNat (IntKind.wrap IntKind.u8 ((48 : Int) + IntKind.wrap IntKind.u8 (Int.tdiv (c : Int) 100))) = 48 + c / 100 := by
  rw [wu8, wu8, Int.tdiv_eq_ediv_of_nonneg (by omega)]; omega
theorem esc_b (c : Nat) (h : c < 256) : Int.toNat (IntKind.wrap IntKind.u8 ((48 : Int) + Int.tmod (IntKind.wrap IntKind.u8 (Int.tdiv (c : Int) 10)) 10)) = 48 + c / 10 % 10 := by
  rw [wu8, wu8, Int.tdiv_eq_ediv_of_nonneg (by omega), Int.tmod_eq_emod_of_nonneg (by omega)]; omega
theorem esc_c (c : Nat) (_ : c < 256) : Int.toNat (IntKind.wrap IntKind.u8 ((48 : Int) + Int.tmod (c : Int) 10)) = 48 + c % 10 := by
  rw [wu8, Int.tmod_eq_emod_of_nonneg (by omega)]; omega

theorem esc_bytes (c : Nat) (h : c < 256) : ∀ x ∈ [AV.val (Value.int IntKind.u8 92), AV.val (Value.int IntKind.u8 (IntKind.wrap IntKind.u8 ((48 : Int) + IntKind.wrap IntKind.u8 (Int.tdiv (c : Int) 100)))), AV.val (Value.int IntKind.u8 (IntKind.wrap IntKind.u8 ((48 : Int) + Int.tmod (IntKind.wrap IntKind.u8 (Int.tdiv (c : Int) 10)) 10))), AV.val (Value.int IntKind.u8 (IntKind.wrap IntKind.u8 ((48 : Int) + Int.tmod (c : Int) 10)))], isByteAV x := by
  intro x hx
  simp only [List.mem_cons, List.not_mem_nil, or_false] at hx
  rcases hx with rfl | rfl | rfl | rfl
  · exact ⟨by decide, by decide⟩
  all_goals exact ⟨by rw [wu8]; omega, by rw [wu8]; omega⟩

theorem lab_r0 (s : List UInt8) (i : Nat) (hi : i < s.length) (hm : s.length ≤ 1000000) : EvX Try.prog 0 (loopAt Try.prog 84 3) ((lbG0 s i).st 0) .normal ((lbG1 s (i + 1) (esc1 (s.getD i 0))).st 0) := by
  have hc := (s.getD i 0).toNat_lt
  by_cases h1 : (s.getD i 0).toNat < 33
  · have e : esc1 (s.getD i 0) = _ := if_pos (.inl h1)
    rw [e]
    refine stepXS_ok noneKnown_ok (lab_s0lo s i _) ?_
    repeat' (first | exact allNil | refine allCons ?_ ?_ | (with_reducible refine allRp _ ?_ ?_))
    all_goals first | (with_reducible rfl) | exact decide_eq_true (by omega) | exact decide_eq_false (by omega) | exact beq_iff_eq.2 (by omega) | exact beq_eq_false_iff_ne.2 (by omega) | exact esc_bytes _ hc | exact sI_succ i (by omega) | (simp; omega) | (simp; done) | (unfold SameO; simp only [esc_a _ hc, esc_b _ hc, esc_c _ hc]; done) | (unfold SameO; simp [esc_a _ hc, esc_b _ hc, esc_c _ hc]; done) | (intro x hx; rw [List.mem_singleton.1 hx]; exact ⟨by omega, by omega⟩) | (intro x hx; rw [List.mem_singleton.1 hx]; simp [isByteAV]; omega) | skip
  by_cases h2 : 126 < (s.getD i 0).toNat
  · have e : esc1 (s.getD i 0) = _ := if_pos (.inr (.inl h2))
    rw [e]
    refine stepXS_ok noneKnown_ok (lab_s0hi s i _) ?_
    repeat' (first | exact allNil | refine allCons ?_ ?_ | (with_reducible refine allRp _ ?_ ?_))
    all_goals first | (with_reducible rfl) | exact decide_eq_true (by omega) | exact decide_eq_false (by omega) | exact beq_iff_eq.2 (by omega) | exact beq_eq_false_iff_ne.2 (by omega) | exact esc_bytes _ hc | exact sI_succ i (by omega) | (simp; omega) | (simp; done) | (unfold SameO; simp only [esc_a _ hc, esc_b _ hc, esc_c _ hc]; done) | (unfold SameO; simp [esc_a _ hc, esc_b _ hc, esc_c _ hc]; done) | (intro x hx; rw [List.mem_singleton.1 hx]; exact ⟨by omega, by omega⟩) | (intro x hx; rw [List.mem_singleton.1 hx]; simp [isByteAV]; omega) | skip
  by_cases h3 : (s.getD i 0).toNat = 46
  · have e : esc1 (s.getD i 0) = _ := if_pos (.inr (.inr (.inl h3)))
    rw [e]
    refine stepXS_ok noneKnown_ok (lab_s0dot s i _) ?_
    repeat' (first | exact allNil | refine allCons ?_ ?_ | (with_reducible refine allRp _ ?_ ?_))
    all_goals first | (with_reducible rfl) | exact decide_eq_true (by omega) | exact decide_eq_false (by omega) | exact beq_iff_eq.2 (by omega) | exact beq_eq_false_iff_ne.2 (by omega) | exact esc_bytes _ hc | exact sI_succ i (by omega) | (simp; omega) | (simp; done) | (unfold SameO; simp only [esc_a _ hc, esc_b _ hc, esc_c _ hc]; done) | (unfold SameO; simp [esc_a _ hc, esc_b _ hc, esc_c _ hc]; done) | (intro x hx; rw [List.mem_singleton.1 hx]; exact ⟨by omega, by omega⟩) | (intro x hx; rw [List.mem_singleton.1 hx]; simp [isByteAV]; omega) | skip
  by_cases h4 : (s.getD i 0).toNat = 92
  · have e : esc1 (s.getD i 0) = _ := if_pos (.inr (.inr (.inr h4)))
    rw [e]
    refine stepXS_ok noneKnown_ok (lab_s0bs s i _) ?_
    repeat' (first | exact allNil | refine allCons ?_ ?_ | (with_reducible refine allRp _ ?_ ?_))
    all_goals first | (with_reducible rfl) | exact decide_eq_true (by omega) | exact decide_eq_false (by omega) | exact beq_iff_eq.2 (by omega) | exact beq_eq_false_iff_ne.2 (by omega) | exact esc_bytes _ hc | exact sI_succ i (by omega) | (simp; omega) | (simp; done) | (unfold SameO; simp only [esc_a _ hc, esc_b _ hc, esc_c _ hc]; done) | (unfold SameO; simp [esc_a _ hc, esc_b _ hc, esc_c _ hc]; done) | (intro x hx; rw [List.mem_singleton.1 hx]; exact ⟨by omega, by omega⟩) | (intro x hx; rw [List.mem_singleton.1 hx]; simp [isByteAV]; omega) | skip
  · have e : esc1 (s.getD i 0) = _ := if_neg (by omega)
    rw [e]
    refine stepXS_ok noneKnown_ok (lab_s0pl s i _) ?_
    repeat' (first | exact allNil | refine allCons ?_ ?_ | (with_reducible refine allRp _ ?_ ?_))
    all_goals first | (with_reducible rfl) | exact decide_eq_true (by omega) | exact decide_eq_false (by omega) | exact beq_iff_eq.2 (by omega) | exact beq_eq_false_iff_ne.2 (by omega) | exact esc_bytes _ hc | exact sI_succ i (by omega) | (simp; omega) | (simp; done) | (unfold SameO; simp only [esc_a _ hc, esc_b _ hc, esc_c _ hc]; done) | (unfold SameO; simp [esc_a _ hc, esc_b _ hc, esc_c _ hc]; done) | (intro x hx; rw [List.mem_singleton.1 hx]; exact ⟨by omega, by omega⟩) | (intro x hx; rw [List.mem_singleton.1 hx]; simp [isByteAV]; omega) | skip

theorem lab_r1 (s : List UInt8) (i : Nat) (a : List UInt8) (ha : a.length ≤ 900000000) (hi : i < s.length) (hm : s.length ≤ 1000000) : EvX Try.prog 0 (loopAt Try.prog 84 3) ((lbG1 s i a).st 0) .normal ((lbG1 s (i + 1) (a ++ esc1 (s.getD i 0))).st 0) := by
  have hc := (s.getD i 0).toNat_lt
  by_cases h1 : (s.getD i 0).toNat < 33
  · have e : esc1 (s.getD i 0) = _ := if_pos (.inl h1)
    rw [e]
    refine stepXS_ok noneKnown_ok (lab_s1lo s i a _) ?_
    repeat' (first | exact allNil | refine allCons ?_ ?_ | (with_reducible refine allRp _ ?_ ?_))
    all_goals first | (with_reducible rfl) | exact decide_eq_true (by omega) | exact decide_eq_false (by omega) | exact beq_iff_eq.2 (by omega) | exact beq_eq_false_iff_ne.2 (by omega) | exact esc_bytes _ hc | exact sI_succ i (by omega) | (simp; omega) | (simp; done) | (unfold SameO; simp only [esc_a _ hc, esc_b _ hc, esc_c _ hc]; done) | (unfold SameO; simp [esc_a _ hc, esc_b _ hc, esc_c _ hc]; done) | (intro x hx; rw [List.mem_singleton.1 hx]; exact ⟨by omega, by omega⟩) | (intro x hx; rw [List.mem_singleton.1 hx]; simp [isByteAV]; omega) | skip
  by_cases h2 : 126 < (s.getD i 0).toNat
  · have e : esc1 (s.getD i 0) = _ := if_pos (.inr (.inl h2))
    rw [e]
    refine stepXS_ok noneKnown_ok (lab_s1hi s i a _) ?_
    repeat' (first | exact allNil | refine allCons ?_ ?_ | (with_reducible refine allRp _ ?_ ?_))
    all_goals first | (with_reducible rfl) | exact decide_eq_true (by omega) | exact decide_eq_false (by omega) | exact beq_iff_eq.2 (by omega) | exact beq_eq_false_iff_ne.2 (by omega) | exact esc_bytes _ hc | exact sI_succ i (by omega) | (simp; omega) | (simp; done) | (unfold SameO; simp only [esc_a _ hc, esc_b _ hc, esc_c _ hc]; done) | (unfold SameO; simp [esc_a _ hc, esc_b _ hc, esc_c _ hc]; done) | (intro x hx; rw [List.mem_singleton.1 hx]; exact ⟨by omega, by omega⟩) | (intro x hx; rw [List.mem_singleton.1 hx]; simp [isByteAV]; omega) | skip
  by_cases h3 : (s.getD i 0).toNat = 46
  · have e : esc1 (s.getD i 0) = _ := if_pos (.inr (.inr (.inl h3)))
    rw [e]
    refine stepXS_ok noneKnown_ok (lab_s1dot s i a _) ?_
    repeat' (first | exact allNil | refine allCons ?_ ?_ | (with_reducible refine allRp _ ?_ ?_))
    all_goals first | (with_reducible rfl) | exact decide_eq_true (by omega) | exact decide_eq_false (by omega) | exact beq_iff_eq.2 (by omega) | exact beq_eq_false_iff_ne.2 (by omega) | exact esc_bytes _ hc | exact sI_succ i (by omega) | (simp; omega) | (simp; done) | (unfold SameO; simp only [esc_a _ hc, esc_b _ hc, esc_c _ hc]; done) | (unfold SameO; simp [esc_a _ hc, esc_b _ hc, esc_c _ hc]; done) | (intro x hx; rw [List.mem_singleton.1 hx]; exact ⟨by omega, by omega⟩) | (intro x hx; rw [List.mem_singleton.1 hx]; simp [isByteAV]; omega) | skip
  by_cases h4 : (s.getD i 0).toNat = 92
  · have e : esc1 (s.getD i 0) = _ := if_pos (.inr (.inr (.inr h4)))
    rw [e]
    refine stepXS_ok noneKnown_ok (lab_s1bs s i a _) ?_
    repeat' (first | exact allNil | refine allCons ?_ ?_ | (with_reducible refine allRp _ ?_ ?_))
    all_goals first | (with_reducible rfl) | exact decide_eq_true (by omega) | exact decide_eq_false (by omega) | exact beq_iff_eq.2 (by omega) | exact beq_eq_false_iff_ne.2 (by omega) | exact esc_bytes _ hc | exact sI_succ i (by omega) | (simp; omega) | (simp; done) | (unfold SameO; simp only [esc_a _ hc, esc_b _ hc, esc_c _ hc]; done) | (unfold SameO; simp [esc_a _ hc, esc_b _ hc, esc_c _ hc]; done) | (intro x hx; rw [List.mem_singleton.1 hx]; exact ⟨by omega, by omega⟩) | (intro x hx; rw [List.mem_singleton.1 hx]; simp [isByteAV]; omega) | skip
  · have e : esc1 (s.getD i 0) = _ := if_neg (by omega)
    rw [e]
    refine stepXS_ok noneKnown_ok (lab_s1pl s i a _) ?_
    repeat' (first | exact allNil | refine allCons ?_ ?_ | (with_reducible refine allRp _ ?_ ?_))
    all_goals first | (with_reducible rfl) | exact decide_eq_true (by omega) | exact decide_eq_false (by omega) | exact beq_iff_eq.2 (by omega) | exact beq_eq_false_iff_ne.2 (by omega) | exact esc_bytes _ hc | exact sI_succ i (by omega) | (simp; omega) | (simp; done) | (unfold SameO; simp only [esc_a _ hc, esc_b _ hc, esc_c _ hc]; done) | (unfold SameO; simp [esc_a _ hc, esc_b _ hc, esc_c _ hc]; done) | (intro x hx; rw [List.mem_singleton.1 hx]; exact ⟨by omega, by omega⟩) | (intro x hx; rw [List.mem_singleton.1 hx]; simp [isByteAV]; omega) | skip
end Go.Proofs.Ytmilcpejchjleaa

/- A label's text: the contract. -/
namespace Go.Proofs.Ytmilcpejchjleaa
open Go.RowKit
set_option linter.unusedSimpArgs false

theorem esc1_len (c : UInt8) : (esc1 c).length ≤ 4 := by unfold esc1; split <;> simp
theorem esc1_pos (c : UInt8) : 0 < (esc1 c).length := by unfold esc1; split <;> simp
theorem escL_len (s : List UInt8) : (escL s).length ≤ 4 * s.length := by
  induction s with
  | nil => simp [escL]
  | cons c r ih =>
    have := esc1_len c
    simp only [escL, List.flatMap_cons, List.length_append, List.length_cons] at ih ⊢
    omega

theorem lab_loop (s : List UInt8) (hm : s.length ≤ 1000000) : ∀ (m i : Nat) (a : List UInt8), i + m = s.length → a.length ≤ 4 * i →
    EvXL Try.prog 0 (loopAt Try.prog 84 3) ((lbG1 s i a).st 0) (.exit 0) ((lbE1 (a ++ escL (s.drop i))).st 0)
  | 0, i, a, h, ha => by
    have e : a ++ escL (s.drop i) = a := by rw [List.drop_of_length_le (by omega)]; simp [escL]
    rw [e]
    exact EvXL.last (stepXS_ok noneKnown_ok (lab_e1 s i a) (by
      repeat' (first | exact allNil | refine allCons ?_ ?_ | (with_reducible refine allRp _ ?_ ?_))
      all_goals first | (with_reducible rfl) | exact decide_eq_false (by omega) | (simp [SameO]; done))) (by simp)
  | m + 1, i, a, h, ha => by
    have hi : i < s.length := by omega
    have e : a ++ escL (s.drop i) = (a ++ esc1 (s.getD i 0)) ++ escL (s.drop (i + 1)) := by
      rw [List.drop_eq_getElem_cons hi, List.getD_eq_getElem?_getD, List.getElem?_eq_getElem hi]
      simp only [escL, List.flatMap_cons, Option.getD_some, List.append_assoc]
    have := esc1_len (s.getD i 0)
    rw [e]
    exact EvXL.step (lab_r1 s i a (by omega) hi hm) (lab_loop s hm m (i + 1) _ (by omega) (by rw [List.length_append]; omega))

theorem label_call (s : List UInt8) (hm : s.length ≤ 1000000) (L : List (Nat × AObj)) (nx : Nat) : ACall Try.prog 84 [sStr s] L nx (sStr (escL s)) L nx := by
  have hx : ∀ r, renL r [sStr s] = [sStr s] := fun r => rfl
  cases s with
  | nil =>
    refine (outXS_ok noneKnown_ok (lab_0 []) ?_).lift hx L nx
    have hl : EvXL Try.prog 0 (loopAt Try.prog 84 3) ((lbG0 [] 0).st 0) (.exit 0) (lbE0.st 0) := EvXL.last (stepXS_ok noneKnown_ok (lab_e0 [] 0) (by
      repeat' (first | exact allNil | refine allCons ?_ ?_ | (with_reducible refine allRp _ ?_ ?_))
      all_goals first | (with_reducible rfl) | rfl)) (by simp)
    repeat' (first | exact allNil | refine allCons ?_ ?_ | (with_reducible refine allRp _ ?_ ?_))
    all_goals first | (with_reducible rfl) | rfl | exact hl
  | cons c r =>
    have hl : EvXL Try.prog 0 (loopAt Try.prog 84 3) ((lbG0 (c :: r) 0).st 0) (.exit 0) ((lbE1 (escL (c :: r))).st 0) := by
      have e : escL (c :: r) = esc1 ((c :: r).getD 0 0) ++ escL ((c :: r).drop 1) := by simp [escL]
      rw [e]
      have := esc1_len ((c :: r).getD 0 0)
      exact EvXL.step (lab_r0 (c :: r) 0 (by simp) hm) (lab_loop (c :: r) hm r.length 1 _ (by simp; omega) (by omega))
    have h := outXS_ok noneKnown_ok (lab_1 (c :: r)) (by
      repeat' (first | exact allNil | refine allCons ?_ ?_ | (with_reducible refine allRp _ ?_ ?_))
      all_goals first | (with_reducible rfl) | exact hl | (simp; done) | (simp; omega))
    rw [List.take_of_length_le (Nat.le_refl _)] at h
    exact h.lift hx L nx
end Go.Proofs.Ytmilcpejchjleaa
