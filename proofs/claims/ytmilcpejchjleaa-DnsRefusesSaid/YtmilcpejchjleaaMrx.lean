/- Several texts in one: Rx0, RxRun, Rx. -/
import Derived.Test.YtmilcpejchjleaaMkp
import Derived.Test.YtmilcpejchjleaaJw

/- A name's text, the document's way: what the heads of the loops say. -/
namespace Go.Proofs.Ytmilcpejchjleaa
open Go.RowKit

def rxG (ls : List (List UInt8)) (i : Nat) (a : List UInt8) : GoalX := { len := 74, opn := [(0, vS ls), (4, sI i), (3, sStr a)] }
def rxH (ls : List (List UInt8)) (i k : Nat) (a : List UInt8) : GoalX := { len := 74, opn := [(0, vS ls), (4, sI i), (5, sI k), (3, sStr a)] }
def rxE (a : List UInt8) : GoalX := { len := 74, opn := [(3, sStr a)] }
def rxL (ls : List (List UInt8)) (a : List UInt8) : LoopX := { ids := [], G := rxG ls 0 [], ex := .exit 0, E := rxE a }
def riL (ls : List (List UInt8)) (i : Nat) (a c : List UInt8) : LoopX := { ids := [], G := rxH ls i 0 a, ex := .exit 2, E := rxG ls i c }
def escB (c : UInt8) : List UInt8 := [92, UInt8.ofNat (48 + c.toNat / 100), UInt8.ofNat (48 + c.toNat / 10 % 10), UInt8.ofNat (48 + c.toNat % 10)]
end Go.Proofs.Ytmilcpejchjleaa

/- A name's text, the document's way, reckoned. -/
namespace Go.Proofs.Ytmilcpejchjleaa
open Go.RowKit

set_option maxRecDepth 100000 in
theorem rx_0 (ls : List (List UInt8)) : outXS noneKnown [(52, { br := [(9, true)] })] Try.prog 52 [AV.view (1 : Nat) (List.length ls) fun i => [AV.val (Value.string { data := List.toArray (List.getD ls i []) })]] [] 0 [] [] =
   some (AV.val (Value.string { data := #[(46 : UInt8)] }), [], 5,
   [((↑(List.length ls) : Int) == (0 : Int)) = true]) := by kernel_rfl

set_option maxRecDepth 100000 in
theorem rx_1 (ls : List (List UInt8)) (a : List UInt8) : outXS noneKnown [(52, { br := [(9, false)] })] Try.prog 52 [AV.view (1 : Nat) (List.length ls) fun i => [AV.val (Value.string { data := List.toArray (List.getD ls i []) })]] [] 0 [] [(5, rxL ls a)] =
   some (AV.val (Value.string { data := List.toArray a }), [], 2,
   [((↑(List.length ls) : Int) == (0 : Int)) = false,
   (AV.view (1 : Nat) (List.length ls) fun i => [AV.val (Value.string { data := List.toArray (List.getD ls i []) })]) = AV.view (1 : Nat) (List.length ls) fun i => [AV.val (Value.string { data := List.toArray (List.getD ls i []) })],
   AV.val (Value.int IntKind.i64 (0 : Int)) = AV.val (Value.int IntKind.i64 (0 : Int)),
   AV.val (Value.string { data := #[] }) = AV.val (Value.string { data := #[] }),
   EvXL Try.prog 0 (loopAt Try.prog 52 5) (GoalX.st (LoopX.G (rxL ls a)) 0) (LoopX.ex (rxL ls a)) (GoalX.st (LoopX.E (rxL ls a)) 0)]) := by kernel_rfl

set_option maxRecDepth 100000 in
theorem rx_s0 (ls : List (List UInt8)) (i : Nat) (a : List UInt8) (c : List UInt8) : stepXS noneKnown [(52, { br := [(13, true), (17, false)] })] Try.prog 52 5 (rxG ls i a) (rxG ls (i + (1 : Nat)) c) [] 0 [(10, riL ls i a c)] =
   some (.normal,
   [decide ((↑i : Int) < (↑(List.length ls) : Int)) = true,
   decide ((↑i : Int) > (0 : Int)) = false,
   (AV.view (1 : Nat) (List.length ls) fun i => [AV.val (Value.string { data := List.toArray (List.getD ls i []) })]) = AV.view (1 : Nat) (List.length ls) fun i => [AV.val (Value.string { data := List.toArray (List.getD ls i []) })],
   AV.val (Value.int IntKind.i64 (↑i : Int)) = AV.val (Value.int IntKind.i64 (↑i : Int)),
   AV.val (Value.int IntKind.i64 (0 : Int)) = AV.val (Value.int IntKind.i64 (0 : Int)),
   AV.val (Value.string { data := List.toArray a }) = AV.val (Value.string { data := List.toArray a }),
   EvXL Try.prog 0 (loopAt Try.prog 52 10) (GoalX.st (LoopX.G (riL ls i a c)) 0) (LoopX.ex (riL ls i a c)) (GoalX.st (LoopX.E (riL ls i a c)) 0),
   (AV.view (1 : Nat) (List.length ls) fun i => [AV.val (Value.string { data := List.toArray (List.getD ls i []) })]) = AV.view (1 : Nat) (List.length ls) fun i => [AV.val (Value.string { data := List.toArray (List.getD ls i []) })],
   AV.val (Value.int IntKind.i64 (IntKind.wrap IntKind.i64 ((↑i : Int) + (1 : Int)))) = AV.val (Value.int IntKind.i64 (↑(i + (1 : Nat)) : Int)),
   AV.val (Value.string { data := List.toArray c }) = AV.val (Value.string { data := List.toArray c })]) := by kernel_rfl

set_option maxRecDepth 100000 in
theorem rx_s1 (ls : List (List UInt8)) (i : Nat) (a : List UInt8) (c : List UInt8) : stepXS noneKnown [(52, { br := [(13, true), (17, true)], ob := [(8, 1)] })] Try.prog 52 5 (rxG ls i a) (rxG ls (i + (1 : Nat)) c) [] 0 [(10, riL ls i (a ++ [(46 : UInt8)]) c)] =
   some (.normal,
   [decide ((↑i : Int) < (↑(List.length ls) : Int)) = true,
   decide ((↑i : Int) > (0 : Int)) = true,
   List.length (textB { data := List.toArray a }) + (1 : Nat) ≤ (1000000000000 : Nat),
   (AV.view (1 : Nat) (List.length ls) fun i => [AV.val (Value.string { data := List.toArray (List.getD ls i []) })]) = AV.view (1 : Nat) (List.length ls) fun i => [AV.val (Value.string { data := List.toArray (List.getD ls i []) })],
   AV.val (Value.int IntKind.i64 (↑i : Int)) = AV.val (Value.int IntKind.i64 (↑i : Int)),
   AV.val (Value.int IntKind.i64 (0 : Int)) = AV.val (Value.int IntKind.i64 (0 : Int)),
   AV.val (Value.string { data := List.toArray (textB { data := List.toArray a } ++ [(46 : UInt8)]) }) = AV.val (Value.string { data := List.toArray (a ++ [(46 : UInt8)]) }),
   EvXL Try.prog 0 (loopAt Try.prog 52 10) (GoalX.st (LoopX.G (riL ls i (a ++ [(46 : UInt8)]) c)) 0) (LoopX.ex (riL ls i (a ++ [(46 : UInt8)]) c)) (GoalX.st (LoopX.E (riL ls i (a ++ [(46 : UInt8)]) c)) 0),
   (AV.view (1 : Nat) (List.length ls) fun i => [AV.val (Value.string { data := List.toArray (List.getD ls i []) })]) = AV.view (1 : Nat) (List.length ls) fun i => [AV.val (Value.string { data := List.toArray (List.getD ls i []) })],
   AV.val (Value.int IntKind.i64 (IntKind.wrap IntKind.i64 ((↑i : Int) + (1 : Int)))) = AV.val (Value.int IntKind.i64 (↑(i + (1 : Nat)) : Int)),
   AV.val (Value.string { data := List.toArray c }) = AV.val (Value.string { data := List.toArray c })]) := by kernel_rfl

set_option maxRecDepth 100000 in
theorem rx_e (ls : List (List UInt8)) (i : Nat) (a : List UInt8) : stepXS noneKnown [(52, { br := [(13, false)] })] Try.prog 52 5 (rxG ls i a) (rxE a) [] 0 [] =
   some (.exit 0,
   [decide ((↑i : Int) < (↑(List.length ls) : Int)) = false,
   AV.val (Value.string { data := List.toArray a }) = AV.val (Value.string { data := List.toArray a })]) := by kernel_rfl

set_option maxRecDepth 100000 in
theorem ri_lo (ls : List (List UInt8)) (i : Nat) (k : Nat) (a : List UInt8) : stepXS noneKnown [(52, { op := [(13, 5, .br true)], gd := [(13, 3, true), (13, 4, true)], br := [(26, true)], ob := [(10, 3), (12, 2), (12, 5), (14, 11), (14, 13)] })] Try.prog 52 10 (rxH ls i k a) (rxH ls i (k + (1 : Nat)) (a ++ escB (List.getD (List.getD ls i []) k (0 : UInt8)))) [] 0 [] =
   some (.normal,
   [(0 : Int) ≤ (↑i : Int) ∧ (↑i : Int) < (↑(List.length ls) : Int),
   decide ((↑k : Int) < (↑(List.length (List.getD ls i [])) : Int)) = true,
   (0 : Int) ≤ (↑i : Int) ∧ (↑i : Int) < (↑(List.length ls) : Int),
   (0 : Int) ≤ (↑k : Int) ∧ k < List.length (List.getD ls i []),
   decide ((↑(UInt8.toNat (List.getD (List.getD ls i []) k (0 : UInt8))) : Int) < (33 : Int)) = true,
   decide ((↑(UInt8.toNat (List.getD (List.getD ls i []) k (0 : UInt8))) : Int) < (33 : Int)) = true,
   decide ((↑(UInt8.toNat (List.getD (List.getD ls i []) k (0 : UInt8))) : Int) < (33 : Int)) = true,
   ∀ (x : AV), x ∈ [AV.val (Value.int IntKind.u8 (92 : Int)), AV.val (Value.int IntKind.u8 (IntKind.wrap IntKind.u8 ((48 : Int) + IntKind.wrap IntKind.u8 (Int.tdiv (↑(UInt8.toNat (List.getD (List.getD ls i []) k (0 : UInt8))) : Int) (100 : Int))))), AV.val (Value.int IntKind.u8 (IntKind.wrap IntKind.u8 ((48 : Int) + Int.tmod (IntKind.wrap IntKind.u8 (Int.tdiv (↑(UInt8.toNat (List.getD (List.getD ls i []) k (0 : UInt8))) : Int) (10 : Int))) (10 : Int)))), AV.val (Value.int IntKind.u8 (IntKind.wrap IntKind.u8 ((48 : Int) + Int.tmod (↑(UInt8.toNat (List.getD (List.getD ls i []) k (0 : UInt8))) : Int) (10 : Int))))] → isByteAV x,
   List.length (textB { data := List.toArray a }) + List.length (textB { data := #[(92 : UInt8), UInt8.ofNat (Int.toNat (IntKind.wrap IntKind.u8 ((48 : Int) + IntKind.wrap IntKind.u8 (Int.tdiv (↑(UInt8.toNat (List.getD (List.getD ls i []) k (0 : UInt8))) : Int) (100 : Int))))), UInt8.ofNat (Int.toNat (IntKind.wrap IntKind.u8 ((48 : Int) + Int.tmod (IntKind.wrap IntKind.u8 (Int.tdiv (↑(UInt8.toNat (List.getD (List.getD ls i []) k (0 : UInt8))) : Int) (10 : Int))) (10 : Int)))), UInt8.ofNat (Int.toNat (IntKind.wrap IntKind.u8 ((48 : Int) + Int.tmod (↑(UInt8.toNat (List.getD (List.getD ls i []) k (0 : UInt8))) : Int) (10 : Int))))] }) ≤ (1000000000000 : Nat),
   (AV.view (1 : Nat) (List.length ls) fun i => [AV.val (Value.string { data := List.toArray (List.getD ls i []) })]) = AV.view (1 : Nat) (List.length ls) fun i => [AV.val (Value.string { data := List.toArray (List.getD ls i []) })],
   AV.val (Value.int IntKind.i64 (↑i : Int)) = AV.val (Value.int IntKind.i64 (↑i : Int)),
   AV.val (Value.int IntKind.i64 (IntKind.wrap IntKind.i64 ((↑k : Int) + (1 : Int)))) = AV.val (Value.int IntKind.i64 (↑(k + (1 : Nat)) : Int)),
   AV.val (Value.string { data := List.toArray (textB { data := List.toArray a } ++ textB { data := #[(92 : UInt8), UInt8.ofNat (Int.toNat (IntKind.wrap IntKind.u8 ((48 : Int) + IntKind.wrap IntKind.u8 (Int.tdiv (↑(UInt8.toNat (List.getD (List.getD ls i []) k (0 : UInt8))) : Int) (100 : Int))))), UInt8.ofNat (Int.toNat (IntKind.wrap IntKind.u8 ((48 : Int) + Int.tmod (IntKind.wrap IntKind.u8 (Int.tdiv (↑(UInt8.toNat (List.getD (List.getD ls i []) k (0 : UInt8))) : Int) (10 : Int))) (10 : Int)))), UInt8.ofNat (Int.toNat (IntKind.wrap IntKind.u8 ((48 : Int) + Int.tmod (↑(UInt8.toNat (List.getD (List.getD ls i []) k (0 : UInt8))) : Int) (10 : Int))))] }) }) = AV.val (Value.string { data := List.toArray (a ++ escB (List.getD (List.getD ls i []) k (0 : UInt8))) })]) := by kernel_rfl

set_option maxRecDepth 100000 in
theorem ri_hi (ls : List (List UInt8)) (i : Nat) (k : Nat) (a : List UInt8) : stepXS noneKnown [(52, { op := [(13, 5, .br false), (13, 9, .br true)], gd := [(13, 3, false), (13, 4, false), (13, 7, true), (13, 8, true)], br := [(26, true)], ob := [(10, 3), (12, 2), (12, 5), (14, 11), (14, 13)] })] Try.prog 52 10 (rxH ls i k a) (rxH ls i (k + (1 : Nat)) (a ++ escB (List.getD (List.getD ls i []) k (0 : UInt8)))) [] 0 [] =
   some (.normal,
   [(0 : Int) ≤ (↑i : Int) ∧ (↑i : Int) < (↑(List.length ls) : Int),
   decide ((↑k : Int) < (↑(List.length (List.getD ls i [])) : Int)) = true,
   (0 : Int) ≤ (↑i : Int) ∧ (↑i : Int) < (↑(List.length ls) : Int),
   (0 : Int) ≤ (↑k : Int) ∧ k < List.length (List.getD ls i []),
   decide ((↑(UInt8.toNat (List.getD (List.getD ls i []) k (0 : UInt8))) : Int) < (33 : Int)) = false,
   decide ((↑(UInt8.toNat (List.getD (List.getD ls i []) k (0 : UInt8))) : Int) < (33 : Int)) = false,
   decide ((↑(UInt8.toNat (List.getD (List.getD ls i []) k (0 : UInt8))) : Int) < (33 : Int)) = false,
   decide ((↑(UInt8.toNat (List.getD (List.getD ls i []) k (0 : UInt8))) : Int) > (126 : Int)) = true,
   decide ((↑(UInt8.toNat (List.getD (List.getD ls i []) k (0 : UInt8))) : Int) > (126 : Int)) = true,
   decide ((↑(UInt8.toNat (List.getD (List.getD ls i []) k (0 : UInt8))) : Int) > (126 : Int)) = true,
   ∀ (x : AV), x ∈ [AV.val (Value.int IntKind.u8 (92 : Int)), AV.val (Value.int IntKind.u8 (IntKind.wrap IntKind.u8 ((48 : Int) + IntKind.wrap IntKind.u8 (Int.tdiv (↑(UInt8.toNat (List.getD (List.getD ls i []) k (0 : UInt8))) : Int) (100 : Int))))), AV.val (Value.int IntKind.u8 (IntKind.wrap IntKind.u8 ((48 : Int) + Int.tmod (IntKind.wrap IntKind.u8 (Int.tdiv (↑(UInt8.toNat (List.getD (List.getD ls i []) k (0 : UInt8))) : Int) (10 : Int))) (10 : Int)))), AV.val (Value.int IntKind.u8 (IntKind.wrap IntKind.u8 ((48 : Int) + Int.tmod (↑(UInt8.toNat (List.getD (List.getD ls i []) k (0 : UInt8))) : Int) (10 : Int))))] → isByteAV x,
   List.length (textB { data := List.toArray a }) + List.length (textB { data := #[(92 : UInt8), UInt8.ofNat (Int.toNat (IntKind.wrap IntKind.u8 ((48 : Int) + IntKind.wrap IntKind.u8 (Int.tdiv (↑(UInt8.toNat (List.getD (List.getD ls i []) k (0 : UInt8))) : Int) (100 : Int))))), UInt8.ofNat (Int.toNat (IntKind.wrap IntKind.u8 ((48 : Int) + Int.tmod (IntKind.wrap IntKind.u8 (Int.tdiv (↑(UInt8.toNat (List.getD (List.getD ls i []) k (0 : UInt8))) : Int) (10 : Int))) (10 : Int)))), UInt8.ofNat (Int.toNat (IntKind.wrap IntKind.u8 ((48 : Int) + Int.tmod (↑(UInt8.toNat (List.getD (List.getD ls i []) k (0 : UInt8))) : Int) (10 : Int))))] }) ≤ (1000000000000 : Nat),
   (AV.view (1 : Nat) (List.length ls) fun i => [AV.val (Value.string { data := List.toArray (List.getD ls i []) })]) = AV.view (1 : Nat) (List.length ls) fun i => [AV.val (Value.string { data := List.toArray (List.getD ls i []) })],
   AV.val (Value.int IntKind.i64 (↑i : Int)) = AV.val (Value.int IntKind.i64 (↑i : Int)),
   AV.val (Value.int IntKind.i64 (IntKind.wrap IntKind.i64 ((↑k : Int) + (1 : Int)))) = AV.val (Value.int IntKind.i64 (↑(k + (1 : Nat)) : Int)),
   AV.val (Value.string { data := List.toArray (textB { data := List.toArray a } ++ textB { data := #[(92 : UInt8), UInt8.ofNat (Int.toNat (IntKind.wrap IntKind.u8 ((48 : Int) + IntKind.wrap IntKind.u8 (Int.tdiv (↑(UInt8.toNat (List.getD (List.getD ls i []) k (0 : UInt8))) : Int) (100 : Int))))), UInt8.ofNat (Int.toNat (IntKind.wrap IntKind.u8 ((48 : Int) + Int.tmod (IntKind.wrap IntKind.u8 (Int.tdiv (↑(UInt8.toNat (List.getD (List.getD ls i []) k (0 : UInt8))) : Int) (10 : Int))) (10 : Int)))), UInt8.ofNat (Int.toNat (IntKind.wrap IntKind.u8 ((48 : Int) + Int.tmod (↑(UInt8.toNat (List.getD (List.getD ls i []) k (0 : UInt8))) : Int) (10 : Int))))] }) }) = AV.val (Value.string { data := List.toArray (a ++ escB (List.getD (List.getD ls i []) k (0 : UInt8))) })]) := by kernel_rfl

set_option maxRecDepth 100000 in
theorem ri_dot (ls : List (List UInt8)) (i : Nat) (k : Nat) (a : List UInt8) : stepXS noneKnown [(52, { op := [(13, 5, .br false), (13, 9, .br false), (13, 13, .br true)], gd := [(13, 3, false), (13, 4, false), (13, 7, false), (13, 8, false), (13, 11, true), (13, 12, true)], br := [(26, true)], ob := [(10, 3), (12, 2), (12, 5), (14, 11), (14, 13)] })] Try.prog 52 10 (rxH ls i k a) (rxH ls i (k + (1 : Nat)) (a ++ escB (List.getD (List.getD ls i []) k (0 : UInt8)))) [] 0 [] =
   some (.normal,
   [(0 : Int) ≤ (↑i : Int) ∧ (↑i : Int) < (↑(List.length ls) : Int),
   decide ((↑k : Int) < (↑(List.length (List.getD ls i [])) : Int)) = true,
   (0 : Int) ≤ (↑i : Int) ∧ (↑i : Int) < (↑(List.length ls) : Int),
   (0 : Int) ≤ (↑k : Int) ∧ k < List.length (List.getD ls i []),
   decide ((↑(UInt8.toNat (List.getD (List.getD ls i []) k (0 : UInt8))) : Int) < (33 : Int)) = false,
   decide ((↑(UInt8.toNat (List.getD (List.getD ls i []) k (0 : UInt8))) : Int) < (33 : Int)) = false,
   decide ((↑(UInt8.toNat (List.getD (List.getD ls i []) k (0 : UInt8))) : Int) < (33 : Int)) = false,
   decide ((↑(UInt8.toNat (List.getD (List.getD ls i []) k (0 : UInt8))) : Int) > (126 : Int)) = false,
   decide ((↑(UInt8.toNat (List.getD (List.getD ls i []) k (0 : UInt8))) : Int) > (126 : Int)) = false,
   decide ((↑(UInt8.toNat (List.getD (List.getD ls i []) k (0 : UInt8))) : Int) > (126 : Int)) = false,
   ((↑(UInt8.toNat (List.getD (List.getD ls i []) k (0 : UInt8))) : Int) == (46 : Int)) = true,
   ((↑(UInt8.toNat (List.getD (List.getD ls i []) k (0 : UInt8))) : Int) == (46 : Int)) = true,
   ((↑(UInt8.toNat (List.getD (List.getD ls i []) k (0 : UInt8))) : Int) == (46 : Int)) = true,
   ∀ (x : AV), x ∈ [AV.val (Value.int IntKind.u8 (92 : Int)), AV.val (Value.int IntKind.u8 (IntKind.wrap IntKind.u8 ((48 : Int) + IntKind.wrap IntKind.u8 (Int.tdiv (↑(UInt8.toNat (List.getD (List.getD ls i []) k (0 : UInt8))) : Int) (100 : Int))))), AV.val (Value.int IntKind.u8 (IntKind.wrap IntKind.u8 ((48 : Int) + Int.tmod (IntKind.wrap IntKind.u8 (Int.tdiv (↑(UInt8.toNat (List.getD (List.getD ls i []) k (0 : UInt8))) : Int) (10 : Int))) (10 : Int)))), AV.val (Value.int IntKind.u8 (IntKind.wrap IntKind.u8 ((48 : Int) + Int.tmod (↑(UInt8.toNat (List.getD (List.getD ls i []) k (0 : UInt8))) : Int) (10 : Int))))] → isByteAV x,
   List.length (textB { data := List.toArray a }) + List.length (textB { data := #[(92 : UInt8), UInt8.ofNat (Int.toNat (IntKind.wrap IntKind.u8 ((48 : Int) + IntKind.wrap IntKind.u8 (Int.tdiv (↑(UInt8.toNat (List.getD (List.getD ls i []) k (0 : UInt8))) : Int) (100 : Int))))), UInt8.ofNat (Int.toNat (IntKind.wrap IntKind.u8 ((48 : Int) + Int.tmod (IntKind.wrap IntKind.u8 (Int.tdiv (↑(UInt8.toNat (List.getD (List.getD ls i []) k (0 : UInt8))) : Int) (10 : Int))) (10 : Int)))), UInt8.ofNat (Int.toNat (IntKind.wrap IntKind.u8 ((48 : Int) + Int.tmod (↑(UInt8.toNat (List.getD (List.getD ls i []) k (0 : UInt8))) : Int) (10 : Int))))] }) ≤ (1000000000000 : Nat),
   (AV.view (1 : Nat) (List.length ls) fun i => [AV.val (Value.string { data := List.toArray (List.getD ls i []) })]) = AV.view (1 : Nat) (List.length ls) fun i => [AV.val (Value.string { data := List.toArray (List.getD ls i []) })],
   AV.val (Value.int IntKind.i64 (↑i : Int)) = AV.val (Value.int IntKind.i64 (↑i : Int)),
   AV.val (Value.int IntKind.i64 (IntKind.wrap IntKind.i64 ((↑k : Int) + (1 : Int)))) = AV.val (Value.int IntKind.i64 (↑(k + (1 : Nat)) : Int)),
   AV.val (Value.string { data := List.toArray (textB { data := List.toArray a } ++ textB { data := #[(92 : UInt8), UInt8.ofNat (Int.toNat (IntKind.wrap IntKind.u8 ((48 : Int) + IntKind.wrap IntKind.u8 (Int.tdiv (↑(UInt8.toNat (List.getD (List.getD ls i []) k (0 : UInt8))) : Int) (100 : Int))))), UInt8.ofNat (Int.toNat (IntKind.wrap IntKind.u8 ((48 : Int) + Int.tmod (IntKind.wrap IntKind.u8 (Int.tdiv (↑(UInt8.toNat (List.getD (List.getD ls i []) k (0 : UInt8))) : Int) (10 : Int))) (10 : Int)))), UInt8.ofNat (Int.toNat (IntKind.wrap IntKind.u8 ((48 : Int) + Int.tmod (↑(UInt8.toNat (List.getD (List.getD ls i []) k (0 : UInt8))) : Int) (10 : Int))))] }) }) = AV.val (Value.string { data := List.toArray (a ++ escB (List.getD (List.getD ls i []) k (0 : UInt8))) })]) := by kernel_rfl

set_option maxRecDepth 100000 in
theorem ri_bs (ls : List (List UInt8)) (i : Nat) (k : Nat) (a : List UInt8) : stepXS noneKnown [(52, { op := [(13, 5, .br false), (13, 9, .br false), (13, 13, .br false)], gd := [(13, 3, false), (13, 4, false), (13, 7, false), (13, 8, false), (13, 11, false), (13, 12, false)], br := [(26, true), (48, true)], ob := [(10, 3), (12, 2), (12, 5), (14, 11), (14, 13)] })] Try.prog 52 10 (rxH ls i k a) (rxH ls i (k + (1 : Nat)) (a ++ escB (List.getD (List.getD ls i []) k (0 : UInt8)))) [] 0 [] =
   some (.normal,
   [(0 : Int) ≤ (↑i : Int) ∧ (↑i : Int) < (↑(List.length ls) : Int),
   decide ((↑k : Int) < (↑(List.length (List.getD ls i [])) : Int)) = true,
   (0 : Int) ≤ (↑i : Int) ∧ (↑i : Int) < (↑(List.length ls) : Int),
   (0 : Int) ≤ (↑k : Int) ∧ k < List.length (List.getD ls i []),
   decide ((↑(UInt8.toNat (List.getD (List.getD ls i []) k (0 : UInt8))) : Int) < (33 : Int)) = false,
   decide ((↑(UInt8.toNat (List.getD (List.getD ls i []) k (0 : UInt8))) : Int) < (33 : Int)) = false,
   decide ((↑(UInt8.toNat (List.getD (List.getD ls i []) k (0 : UInt8))) : Int) < (33 : Int)) = false,
   decide ((↑(UInt8.toNat (List.getD (List.getD ls i []) k (0 : UInt8))) : Int) > (126 : Int)) = false,
   decide ((↑(UInt8.toNat (List.getD (List.getD ls i []) k (0 : UInt8))) : Int) > (126 : Int)) = false,
   decide ((↑(UInt8.toNat (List.getD (List.getD ls i []) k (0 : UInt8))) : Int) > (126 : Int)) = false,
   ((↑(UInt8.toNat (List.getD (List.getD ls i []) k (0 : UInt8))) : Int) == (46 : Int)) = false,
   ((↑(UInt8.toNat (List.getD (List.getD ls i []) k (0 : UInt8))) : Int) == (46 : Int)) = false,
   ((↑(UInt8.toNat (List.getD (List.getD ls i []) k (0 : UInt8))) : Int) == (46 : Int)) = false,
   ((↑(UInt8.toNat (List.getD (List.getD ls i []) k (0 : UInt8))) : Int) == (92 : Int)) = true,
   ∀ (x : AV), x ∈ [AV.val (Value.int IntKind.u8 (92 : Int)), AV.val (Value.int IntKind.u8 (IntKind.wrap IntKind.u8 ((48 : Int) + IntKind.wrap IntKind.u8 (Int.tdiv (↑(UInt8.toNat (List.getD (List.getD ls i []) k (0 : UInt8))) : Int) (100 : Int))))), AV.val (Value.int IntKind.u8 (IntKind.wrap IntKind.u8 ((48 : Int) + Int.tmod (IntKind.wrap IntKind.u8 (Int.tdiv (↑(UInt8.toNat (List.getD (List.getD ls i []) k (0 : UInt8))) : Int) (10 : Int))) (10 : Int)))), AV.val (Value.int IntKind.u8 (IntKind.wrap IntKind.u8 ((48 : Int) + Int.tmod (↑(UInt8.toNat (List.getD (List.getD ls i []) k (0 : UInt8))) : Int) (10 : Int))))] → isByteAV x,
   List.length (textB { data := List.toArray a }) + List.length (textB { data := #[(92 : UInt8), UInt8.ofNat (Int.toNat (IntKind.wrap IntKind.u8 ((48 : Int) + IntKind.wrap IntKind.u8 (Int.tdiv (↑(UInt8.toNat (List.getD (List.getD ls i []) k (0 : UInt8))) : Int) (100 : Int))))), UInt8.ofNat (Int.toNat (IntKind.wrap IntKind.u8 ((48 : Int) + Int.tmod (IntKind.wrap IntKind.u8 (Int.tdiv (↑(UInt8.toNat (List.getD (List.getD ls i []) k (0 : UInt8))) : Int) (10 : Int))) (10 : Int)))), UInt8.ofNat (Int.toNat (IntKind.wrap IntKind.u8 ((48 : Int) + Int.tmod (↑(UInt8.toNat (List.getD (List.getD ls i []) k (0 : UInt8))) : Int) (10 : Int))))] }) ≤ (1000000000000 : Nat),
   (AV.view (1 : Nat) (List.length ls) fun i => [AV.val (Value.string { data := List.toArray (List.getD ls i []) })]) = AV.view (1 : Nat) (List.length ls) fun i => [AV.val (Value.string { data := List.toArray (List.getD ls i []) })],
   AV.val (Value.int IntKind.i64 (↑i : Int)) = AV.val (Value.int IntKind.i64 (↑i : Int)),
   AV.val (Value.int IntKind.i64 (IntKind.wrap IntKind.i64 ((↑k : Int) + (1 : Int)))) = AV.val (Value.int IntKind.i64 (↑(k + (1 : Nat)) : Int)),
   AV.val (Value.string { data := List.toArray (textB { data := List.toArray a } ++ textB { data := #[(92 : UInt8), UInt8.ofNat (Int.toNat (IntKind.wrap IntKind.u8 ((48 : Int) + IntKind.wrap IntKind.u8 (Int.tdiv (↑(UInt8.toNat (List.getD (List.getD ls i []) k (0 : UInt8))) : Int) (100 : Int))))), UInt8.ofNat (Int.toNat (IntKind.wrap IntKind.u8 ((48 : Int) + Int.tmod (IntKind.wrap IntKind.u8 (Int.tdiv (↑(UInt8.toNat (List.getD (List.getD ls i []) k (0 : UInt8))) : Int) (10 : Int))) (10 : Int)))), UInt8.ofNat (Int.toNat (IntKind.wrap IntKind.u8 ((48 : Int) + Int.tmod (↑(UInt8.toNat (List.getD (List.getD ls i []) k (0 : UInt8))) : Int) (10 : Int))))] }) }) = AV.val (Value.string { data := List.toArray (a ++ escB (List.getD (List.getD ls i []) k (0 : UInt8))) })]) := by kernel_rfl

set_option maxRecDepth 100000 in
theorem ri_chr (ls : List (List UInt8)) (i : Nat) (k : Nat) (a : List UInt8) : stepXS noneKnown [(52, { op := [(13, 5, .br false), (13, 9, .br false), (13, 13, .br false)], gd := [(13, 3, false), (13, 4, false), (13, 7, false), (13, 8, false), (13, 11, false), (13, 12, false)], br := [(26, true), (48, false)], ob := [(10, 3), (12, 2), (12, 5), (15, 3), (15, 8), (15, 9)] })] Try.prog 52 10 (rxH ls i k a) (rxH ls i (k + (1 : Nat)) (a ++ [List.getD (List.getD ls i []) k (0 : UInt8)])) [] 0 [] =
   some (.normal,
   [(0 : Int) ≤ (↑i : Int) ∧ (↑i : Int) < (↑(List.length ls) : Int),
   decide ((↑k : Int) < (↑(List.length (List.getD ls i [])) : Int)) = true,
   (0 : Int) ≤ (↑i : Int) ∧ (↑i : Int) < (↑(List.length ls) : Int),
   (0 : Int) ≤ (↑k : Int) ∧ k < List.length (List.getD ls i []),
   decide ((↑(UInt8.toNat (List.getD (List.getD ls i []) k (0 : UInt8))) : Int) < (33 : Int)) = false,
   decide ((↑(UInt8.toNat (List.getD (List.getD ls i []) k (0 : UInt8))) : Int) < (33 : Int)) = false,
   decide ((↑(UInt8.toNat (List.getD (List.getD ls i []) k (0 : UInt8))) : Int) < (33 : Int)) = false,
   decide ((↑(UInt8.toNat (List.getD (List.getD ls i []) k (0 : UInt8))) : Int) > (126 : Int)) = false,
   decide ((↑(UInt8.toNat (List.getD (List.getD ls i []) k (0 : UInt8))) : Int) > (126 : Int)) = false,
   decide ((↑(UInt8.toNat (List.getD (List.getD ls i []) k (0 : UInt8))) : Int) > (126 : Int)) = false,
   ((↑(UInt8.toNat (List.getD (List.getD ls i []) k (0 : UInt8))) : Int) == (46 : Int)) = false,
   ((↑(UInt8.toNat (List.getD (List.getD ls i []) k (0 : UInt8))) : Int) == (46 : Int)) = false,
   ((↑(UInt8.toNat (List.getD (List.getD ls i []) k (0 : UInt8))) : Int) == (46 : Int)) = false,
   ((↑(UInt8.toNat (List.getD (List.getD ls i []) k (0 : UInt8))) : Int) == (92 : Int)) = false,
   (0 : Int) ≤ (↑i : Int) ∧ (↑i : Int) < (↑(List.length ls) : Int),
   (0 : Int) ≤ (↑k : Int),
   (0 : Int) ≤ IntKind.wrap IntKind.i64 ((↑k : Int) + (1 : Int)),
   k ≤ Int.toNat (IntKind.wrap IntKind.i64 ((↑k : Int) + (1 : Int))) ∧ Int.toNat (IntKind.wrap IntKind.i64 ((↑k : Int) + (1 : Int))) ≤ List.length (List.getD ls i []),
   List.length (textB { data := List.toArray a }) + List.length (textB (ByteArray.extract { data := List.toArray (List.getD ls i []) } k (Int.toNat (IntKind.wrap IntKind.i64 ((↑k : Int) + (1 : Int)))))) ≤ (1000000000000 : Nat),
   (AV.view (1 : Nat) (List.length ls) fun i => [AV.val (Value.string { data := List.toArray (List.getD ls i []) })]) = AV.view (1 : Nat) (List.length ls) fun i => [AV.val (Value.string { data := List.toArray (List.getD ls i []) })],
   AV.val (Value.int IntKind.i64 (↑i : Int)) = AV.val (Value.int IntKind.i64 (↑i : Int)),
   AV.val (Value.int IntKind.i64 (IntKind.wrap IntKind.i64 ((↑k : Int) + (1 : Int)))) = AV.val (Value.int IntKind.i64 (↑(k + (1 : Nat)) : Int)),
   AV.val (Value.string { data := List.toArray (textB { data := List.toArray a } ++ textB (ByteArray.extract { data := List.toArray (List.getD ls i []) } k (Int.toNat (IntKind.wrap IntKind.i64 ((↑k : Int) + (1 : Int)))))) }) = AV.val (Value.string { data := List.toArray (a ++ [List.getD (List.getD ls i []) k (0 : UInt8)]) })]) := by kernel_rfl

set_option maxRecDepth 100000 in
theorem ri_e (ls : List (List UInt8)) (i : Nat) (k : Nat) (a : List UInt8) : stepXS noneKnown [(52, { br := [(26, false)], ob := [(10, 3)] })] Try.prog 52 10 (rxH ls i k a) (rxG ls i a) [] 0 [] =
   some (.exit 2,
   [(0 : Int) ≤ (↑i : Int) ∧ (↑i : Int) < (↑(List.length ls) : Int),
   decide ((↑k : Int) < (↑(List.length (List.getD ls i [])) : Int)) = false,
   (AV.view (1 : Nat) (List.length ls) fun i => [AV.val (Value.string { data := List.toArray (List.getD ls i []) })]) = AV.view (1 : Nat) (List.length ls) fun i => [AV.val (Value.string { data := List.toArray (List.getD ls i []) })],
   AV.val (Value.int IntKind.i64 (↑i : Int)) = AV.val (Value.int IntKind.i64 (↑i : Int)),
   AV.val (Value.string { data := List.toArray a }) = AV.val (Value.string { data := List.toArray a })]) := by kernel_rfl
end Go.Proofs.Ytmilcpejchjleaa

/- A name's text, the document's way: what is yielded. -/
namespace Go.Proofs.Ytmilcpejchjleaa
open Go.RowKit
set_option linter.unusedSimpArgs false

theorem textB_mk (xs : List UInt8) : textB { data := xs.toArray } = xs := rfl
theorem textB_ext (s : List UInt8) (k : Nat) (h : k < s.length) : textB (ByteArray.extract { data := s.toArray } k (k + 1)) = [s.getD k 0] := by
  unfold textB
  rw [ByteArray.data_extract]
  simp only [List.extract_toArray, List.extract_eq_take_drop, Nat.add_sub_cancel_left]
  rw [List.drop_eq_getElem_cons h, List.getD_eq_getElem?_getD, List.getElem?_eq_getElem h]
  rfl

theorem ri_step (ls : List (List UInt8)) (i k : Nat) (a s : List UInt8) (hi : i < ls.length) (hg : ls.getD i [] = s) (hk : k < s.length) (hm : s.length ≤ 1000000) (ha : a.length ≤ 900000000000) :
    EvX Try.prog 0 (loopAt Try.prog 52 10) ((rxH ls i k a).st 0) .normal ((rxH ls i (k + 1) (a ++ esc1 (s.getD k 0))).st 0) := by
  have hc := (s.getD k 0).toNat_lt
  subst hg
  by_cases h1 : ((ls.getD i []).getD k 0).toNat < 33
  · have e : esc1 ((ls.getD i []).getD k 0) = escB ((ls.getD i []).getD k 0) := if_pos (.inl h1)
    rw [e]
    refine stepXS_ok noneKnown_ok (ri_lo ls i k a) ?_
    simp only [esc_a _ hc, esc_b _ hc, esc_c _ hc, textB_mk]
    repeat' (first | exact allNil | refine allCons ?_ ?_ | (with_reducible refine allRp _ ?_ ?_))
    all_goals first | (with_reducible rfl) | exact decide_eq_true (by omega) | exact decide_eq_false (by omega) | exact beq_iff_eq.2 (by omega) | exact beq_eq_false_iff_ne.2 (by omega) | exact esc_bytes _ hc | exact sI_succ k (by omega) | omega | (simp; omega) | (simp; done) | rfl
  by_cases h2 : 126 < ((ls.getD i []).getD k 0).toNat
  · have e : esc1 ((ls.getD i []).getD k 0) = escB ((ls.getD i []).getD k 0) := if_pos (.inr (.inl h2))
    rw [e]
    refine stepXS_ok noneKnown_ok (ri_hi ls i k a) ?_
    simp only [esc_a _ hc, esc_b _ hc, esc_c _ hc, textB_mk]
    repeat' (first | exact allNil | refine allCons ?_ ?_ | (with_reducible refine allRp _ ?_ ?_))
    all_goals first | (with_reducible rfl) | exact decide_eq_true (by omega) | exact decide_eq_false (by omega) | exact beq_iff_eq.2 (by omega) | exact beq_eq_false_iff_ne.2 (by omega) | exact esc_bytes _ hc | exact sI_succ k (by omega) | omega | (simp; omega) | (simp; done) | rfl
  by_cases h3 : ((ls.getD i []).getD k 0).toNat = 46
  · have e : esc1 ((ls.getD i []).getD k 0) = escB ((ls.getD i []).getD k 0) := if_pos (.inr (.inr (.inl h3)))
    rw [e]
    refine stepXS_ok noneKnown_ok (ri_dot ls i k a) ?_
    simp only [esc_a _ hc, esc_b _ hc, esc_c _ hc, textB_mk]
    repeat' (first | exact allNil | refine allCons ?_ ?_ | (with_reducible refine allRp _ ?_ ?_))
    all_goals first | (with_reducible rfl) | exact decide_eq_true (by omega) | exact decide_eq_false (by omega) | exact beq_iff_eq.2 (by omega) | exact beq_eq_false_iff_ne.2 (by omega) | exact esc_bytes _ hc | exact sI_succ k (by omega) | omega | (simp; omega) | (simp; done) | rfl
  by_cases h4 : ((ls.getD i []).getD k 0).toNat = 92
  · have e : esc1 ((ls.getD i []).getD k 0) = escB ((ls.getD i []).getD k 0) := if_pos (.inr (.inr (.inr h4)))
    rw [e]
    refine stepXS_ok noneKnown_ok (ri_bs ls i k a) ?_
    simp only [esc_a _ hc, esc_b _ hc, esc_c _ hc, textB_mk]
    repeat' (first | exact allNil | refine allCons ?_ ?_ | (with_reducible refine allRp _ ?_ ?_))
    all_goals first | (with_reducible rfl) | exact decide_eq_true (by omega) | exact decide_eq_false (by omega) | exact beq_iff_eq.2 (by omega) | exact beq_eq_false_iff_ne.2 (by omega) | exact esc_bytes _ hc | exact sI_succ k (by omega) | omega | (simp; omega) | (simp; done) | rfl
  · have e : esc1 ((ls.getD i []).getD k 0) = [(ls.getD i []).getD k 0] := if_neg (by omega)
    rw [e]
    refine stepXS_ok noneKnown_ok (ri_chr ls i k a) ?_
    simp only [wNat (z := (k : Int) + (1 : Int)) (k + 1) (by omega) (by omega), Int.toNat_natCast, textB_ext _ _ hk, textB_mk]
    repeat' (first | exact allNil | refine allCons ?_ ?_ | (with_reducible refine allRp _ ?_ ?_))
    all_goals first | (with_reducible rfl) | exact decide_eq_true (by omega) | exact decide_eq_false (by omega) | exact beq_iff_eq.2 (by omega) | exact beq_eq_false_iff_ne.2 (by omega) | exact sI_succ k (by omega) | omega | (simp; omega) | (simp; done) | rfl

theorem ri_loop (ls : List (List UInt8)) (i : Nat) (s : List UInt8) (hi : i < ls.length) (hg : ls.getD i [] = s) (hm : s.length ≤ 1000000) : ∀ (m k : Nat) (a : List UInt8), k + m = s.length → a.length + 4 * m ≤ 900000000000 →
    EvXL Try.prog 0 (loopAt Try.prog 52 10) ((rxH ls i k a).st 0) (.exit 2) ((rxG ls i (a ++ escL (s.drop k))).st 0)
  | 0, k, a, h, ha => by
    have e : a ++ escL (s.drop k) = a := by rw [List.drop_of_length_le (by omega)]; simp [escL]
    rw [e]
    exact EvXL.last (stepXS_ok noneKnown_ok (ri_e ls i k a) (by
      rw [hg]
      repeat' (first | exact allNil | refine allCons ?_ ?_ | (with_reducible refine allRp _ ?_ ?_))
      all_goals first | (with_reducible rfl) | exact decide_eq_false (by omega) | omega)) (by simp)
  | m + 1, k, a, h, ha => by
    have hk : k < s.length := by omega
    have e : a ++ escL (s.drop k) = (a ++ esc1 (s.getD k 0)) ++ escL (s.drop (k + 1)) := by
      rw [List.drop_eq_getElem_cons hk, List.getD_eq_getElem?_getD, List.getElem?_eq_getElem hk]
      simp only [escL, List.flatMap_cons, Option.getD_some, List.append_assoc]
    have := esc1_len (s.getD k 0)
    rw [e]
    exact EvXL.step (ri_step ls i k a s hi hg hk hm (by omega)) (ri_loop ls i s hi hg hm m (k + 1) _ (by omega) (by rw [List.length_append]; omega))

def lsT (ls : List (List UInt8)) : Prop := ls.length ≤ 1000 ∧ ∀ i, (ls.getD i []).length ≤ 1000
/-- the labels behind the first -/
def tailW : List (List UInt8) → List UInt8
  | [] => []
  | s :: r => 46 :: (escL s ++ tailW r)
theorem tailW_join : ∀ (r : List (List UInt8)) (s : List UInt8), joinW ((s :: r).map escL) ⟨#[46]⟩ = escL s ++ tailW r
  | [], s => by simp [joinW_one, tailW]
  | t :: r, s => by
    have := tailW_join r t
    simp only [List.map_cons] at this ⊢
    rw [joinW_cons, this, tailW]

theorem rx_loop (ls : List (List UInt8)) (hk : lsT ls) : ∀ (rest : List (List UInt8)) (i : Nat) (a : List UInt8), ls.drop i = rest → 0 < i → i ≤ ls.length → a.length ≤ 5000 * i →
    EvXL Try.prog 0 (loopAt Try.prog 52 5) ((rxG ls i a).st 0) (.exit 0) ((rxE (a ++ tailW rest)).st 0)
  | [], i, a, h, h0, hil, ha => by
    have hi : ls.length ≤ i := by simpa using h
    have e : a ++ tailW [] = a := by simp [tailW]
    rw [e]
    exact EvXL.last (stepXS_ok noneKnown_ok (rx_e ls i a) (by
      repeat' (first | exact allNil | refine allCons ?_ ?_ | (with_reducible refine allRp _ ?_ ?_))
      all_goals first | (with_reducible rfl) | exact decide_eq_false (by omega))) (by simp)
  | s :: r, i, a, h, h0, hil, ha => by
    obtain ⟨hi, hg, hr⟩ := dropStep h
    have hm := hk.1
    have hl := hk.2 i
    rw [hg] at hl
    have hel := escL_len s
    have hin := ri_loop ls i s hi hg (by omega) s.length 0 (a ++ [46]) (by omega) (by simp; omega)
    rw [List.drop_zero] at hin
    have e : a ++ tailW (s :: r) = (a ++ [46] ++ escL s) ++ tailW r := by simp [tailW]
    rw [e]
    refine EvXL.step (stepXS_ok noneKnown_ok (rx_s1 ls i a (a ++ [46] ++ escL s)) ?_) (rx_loop ls hk r (i + 1) _ hr (by omega) (by omega) (by simp; omega))
    simp only [textB_mk]
    repeat' (first | exact allNil | refine allCons ?_ ?_ | (with_reducible refine allRp _ ?_ ?_))
    all_goals first | (with_reducible rfl) | exact hin | exact decide_eq_true (by omega) | exact sI_succ i (by omega) | omega | rfl | (simp; done) | (simp [textB]; done) | (simp [textB]; omega) | (simp; omega)

theorem rtext_call (ls : List (List UInt8)) (hk : lsT ls) : ACall Try.prog 52 [vS ls] [] 0 (sStr (textN ls)) [] 0 := by
  unfold textN
  by_cases h0 : ls = []
  · rw [if_pos h0]
    exact (outXS_ok noneKnown_ok (rx_0 ls) (allCons (by simp [h0]) allNil)).lift (fun r => rfl) [] 0
  · rw [if_neg h0]
    obtain ⟨s, r, rfl⟩ : ∃ s r, ls = s :: r := by cases ls with | nil => exact absurd rfl h0 | cons s r => exact ⟨s, r, rfl⟩
    have hl := hk.2 0
    have hl' : s.length ≤ 1000 := hl
    have hel := escL_len s
    have hin := ri_loop (s :: r) 0 s (by simp) rfl (by omega) s.length 0 [] (by omega) (by simp; omega)
    rw [List.drop_zero, List.nil_append] at hin
    have hloop : EvXL Try.prog 0 (loopAt Try.prog 52 5) ((rxG (s :: r) 0 []).st 0) (.exit 0) ((rxE (joinW ((s :: r).map escL) ⟨#[46]⟩)).st 0) := by
      rw [tailW_join]
      refine EvXL.step (stepXS_ok noneKnown_ok (rx_s0 (s :: r) 0 [] (escL s)) ?_) (rx_loop (s :: r) hk r 1 (escL s) rfl (by omega) (by simp) (by omega))
      repeat' (first | exact allNil | refine allCons ?_ ?_ | (with_reducible refine allRp _ ?_ ?_))
      all_goals first | (with_reducible rfl) | exact hin | exact decide_eq_true (by simp) | exact decide_eq_false (by omega) | rfl | (simp; done)
    exact (outXS_ok noneKnown_ok (rx_1 (s :: r) _) (by
      repeat' (first | exact allNil | refine allCons ?_ ?_ | (with_reducible refine allRp _ ?_ ?_))
      all_goals first | (with_reducible rfl) | exact hloop | (simp; done) | (simp; omega) | rfl)).lift (fun r => rfl) [] 0
def kRText : Inl := kPlain 52 (fun ls => .string ⟨(textN ls).toArray⟩) lsT
theorem kRText_ok : InlOk Try.prog kRText := kPlain_ok fun ls h => rtext_call ls h
end Go.Proofs.Ytmilcpejchjleaa
