/- Several texts in one: Rf0, RfRun, Rf, Rg. -/
import Derived.Test.YtmilcpejchjleaaMlb

/- The reference's names: words. -/
namespace Go.Proofs.Ytmilcpejchjleaa
open Go.RowKit

def rgG (ls : List (List UInt8)) (i n : Nat) : GoalX := { len := 39, opn := [(0, vS ls), (4, sI i), (3, sI n)] }
def rgE (n : Nat) : GoalX := { len := 39, opn := [(3, sI n)] }
def rgN : GoalX := { len := 39, tms := [(2, .val (.bool false))] }
def rgL (ls : List (List UInt8)) (m : Nat) : LoopX := { ids := [], G := rgG ls 0 1, ex := .exit 0, E := rgE m }
def rgR (ls : List (List UInt8)) : LoopX := { ids := [], G := rgG ls 0 1, ex := .ret, E := rgN }
def lgG (ls : List (List UInt8)) (i : Nat) : GoalX := { len := 19, opn := [(0, vS ls), (3, sI i)] }
def lgE : GoalX := { len := 19 }
def lgN : GoalX := { len := 19, tms := [(2, .val (.bool true))] }
def lgL (ls : List (List UInt8)) : LoopX := { ids := [], G := lgG ls 0, ex := .exit 0, E := lgE }
def lgR (ls : List (List UInt8)) : LoopX := { ids := [], G := lgG ls 0, ex := .ret, E := lgN }
def rpG (ls : List (List UInt8)) (i : Nat) (a : List UInt8) : GoalX := { len := 33, opn := [(1, vS ls), (6, sI i), (5, .sl 0 0 a.length none)], oob := [(0, puO a)], k := 1 }
def rpE (a : List UInt8) : GoalX := { len := 33, opn := [(5, .sl 0 0 a.length none)], oob := [(0, puO a)], k := 1 }
def rpL (b : List UInt8) (ls : List (List UInt8)) : LoopX := { ids := [3], G := rpG ls 0 b, ex := .exit 0, E := rpE (b ++ encL ls) }
end Go.Proofs.Ytmilcpejchjleaa

/- The reference's names, reckoned. -/
namespace Go.Proofs.Ytmilcpejchjleaa
open Go.RowKit

set_option maxRecDepth 100000 in
theorem rg_ok (ls : List (List UInt8)) (m : Nat) : outXS noneKnown [] Try.prog 48 [AV.view (1 : Nat) (List.length ls) fun i => [AV.val (Value.string { data := List.toArray (List.getD ls i []) })]] [] 0 [] [(3, rgL ls m)] =
   some (AV.val (Value.bool (decide ((↑m : Int) ≤ (255 : Int)))), [], 3,
   [(AV.view (1 : Nat) (List.length ls) fun i => [AV.val (Value.string { data := List.toArray (List.getD ls i []) })]) = AV.view (1 : Nat) (List.length ls) fun i => [AV.val (Value.string { data := List.toArray (List.getD ls i []) })],
   AV.val (Value.int IntKind.i64 (0 : Int)) = AV.val (Value.int IntKind.i64 (0 : Int)),
   AV.val (Value.int IntKind.i64 (1 : Int)) = AV.val (Value.int IntKind.i64 (1 : Int)),
   EvXL Try.prog 0 (loopAt Try.prog 48 3) (GoalX.st (LoopX.G (rgL ls m)) 0) (LoopX.ex (rgL ls m)) (GoalX.st (LoopX.E (rgL ls m)) 0)]) := by kernel_rfl

set_option maxRecDepth 100000 in
theorem rg_no (ls : List (List UInt8)) : outXS noneKnown [] Try.prog 48 [AV.view (1 : Nat) (List.length ls) fun i => [AV.val (Value.string { data := List.toArray (List.getD ls i []) })]] [] 0 [] [(3, rgR ls)] =
   some (AV.val (Value.bool false), [], 0,
   [(AV.view (1 : Nat) (List.length ls) fun i => [AV.val (Value.string { data := List.toArray (List.getD ls i []) })]) = AV.view (1 : Nat) (List.length ls) fun i => [AV.val (Value.string { data := List.toArray (List.getD ls i []) })],
   AV.val (Value.int IntKind.i64 (0 : Int)) = AV.val (Value.int IntKind.i64 (0 : Int)),
   AV.val (Value.int IntKind.i64 (1 : Int)) = AV.val (Value.int IntKind.i64 (1 : Int)),
   EvXL Try.prog 0 (loopAt Try.prog 48 3) (GoalX.st (LoopX.G (rgR ls)) 0) (LoopX.ex (rgR ls)) (GoalX.st (LoopX.E (rgR ls)) 0)]) := by kernel_rfl

set_option maxRecDepth 100000 in
theorem rg_step (ls : List (List UInt8)) (i : Nat) (n : Nat) : stepXS noneKnown [(48, { op := [(5, 13, .br false), (5, 17, .br false)], gd := [(5, 7, false), (5, 8, false), (5, 9, false), (5, 10, false), (5, 11, false), (5, 12, false), (5, 15, false), (5, 16, false)], br := [(8, true), (28, false)], ob := [(5, 2), (5, 9), (7, 4)] })] Try.prog 48 3 (rgG ls i n) (rgG ls (i + (1 : Nat)) (n + (1 : Nat) + List.length (List.getD ls i []))) [] 0 [] =
   some (.normal,
   [decide ((↑i : Int) < (↑(List.length ls) : Int)) = true,
   (0 : Int) ≤ (↑i : Int) ∧ (↑i : Int) < (↑(List.length ls) : Int),
   decide ((↑(List.length (List.getD ls i [])) : Int) < (1 : Int)) = false,
   decide ((↑(List.length (List.getD ls i [])) : Int) < (1 : Int)) = false,
   decide ((↑(List.length (List.getD ls i [])) : Int) < (1 : Int)) = false,
   (0 : Int) ≤ (↑i : Int) ∧ (↑i : Int) < (↑(List.length ls) : Int),
   decide ((↑(List.length (List.getD ls i [])) : Int) < (1 : Int)) = false,
   decide ((↑(List.length (List.getD ls i [])) : Int) < (1 : Int)) = false,
   decide ((↑(List.length (List.getD ls i [])) : Int) < (1 : Int)) = false,
   decide ((↑(List.length (List.getD ls i [])) : Int) < (1 : Int)) = false,
   decide ((↑(List.length (List.getD ls i [])) : Int) > (63 : Int)) = false,
   decide ((↑(List.length (List.getD ls i [])) : Int) > (63 : Int)) = false,
   decide ((↑(List.length (List.getD ls i [])) : Int) > (63 : Int)) = false,
   decide ((↑i : Int) > (127 : Int)) = false,
   (0 : Int) ≤ (↑i : Int) ∧ (↑i : Int) < (↑(List.length ls) : Int),
   (AV.view (1 : Nat) (List.length ls) fun i => [AV.val (Value.string { data := List.toArray (List.getD ls i []) })]) = AV.view (1 : Nat) (List.length ls) fun i => [AV.val (Value.string { data := List.toArray (List.getD ls i []) })],
   AV.val (Value.int IntKind.i64 (IntKind.wrap IntKind.i64 ((↑i : Int) + (1 : Int)))) = AV.val (Value.int IntKind.i64 (↑(i + (1 : Nat)) : Int)),
   AV.val (Value.int IntKind.i64 (IntKind.wrap IntKind.i64 (IntKind.wrap IntKind.i64 ((↑n : Int) + (1 : Int)) + (↑(List.length (List.getD ls i [])) : Int)))) = AV.val (Value.int IntKind.i64 (↑(n + (1 : Nat) + List.length (List.getD ls i [])) : Int))]) := by kernel_rfl

set_option maxRecDepth 100000 in
theorem rg_b1 (ls : List (List UInt8)) (i : Nat) (n : Nat) : stepXS noneKnown [(48, { op := [(5, 13, .br true)], gd := [(5, 7, true), (5, 8, true), (5, 9, true), (5, 10, true), (5, 11, true), (5, 12, true)], br := [(8, true)], ob := [(5, 2)] })] Try.prog 48 3 (rgG ls i n) (rgN) [] 0 [] =
   some (.ret,
   [decide ((↑i : Int) < (↑(List.length ls) : Int)) = true,
   (0 : Int) ≤ (↑i : Int) ∧ (↑i : Int) < (↑(List.length ls) : Int),
   decide ((↑(List.length (List.getD ls i [])) : Int) < (1 : Int)) = true,
   decide ((↑(List.length (List.getD ls i [])) : Int) < (1 : Int)) = true,
   decide ((↑(List.length (List.getD ls i [])) : Int) < (1 : Int)) = true,
   decide ((↑(List.length (List.getD ls i [])) : Int) < (1 : Int)) = true,
   decide ((↑(List.length (List.getD ls i [])) : Int) < (1 : Int)) = true,
   decide ((↑(List.length (List.getD ls i [])) : Int) < (1 : Int)) = true,
   decide ((↑(List.length (List.getD ls i [])) : Int) < (1 : Int)) = true]) := by kernel_rfl

set_option maxRecDepth 100000 in
theorem rg_b2 (ls : List (List UInt8)) (i : Nat) (n : Nat) : stepXS noneKnown [(48, { op := [(5, 13, .br false), (5, 17, .br true)], gd := [(5, 7, false), (5, 8, false), (5, 9, false), (5, 10, false), (5, 11, false), (5, 12, false), (5, 15, true), (5, 16, true)], br := [(8, true)], ob := [(5, 2), (5, 9)] })] Try.prog 48 3 (rgG ls i n) (rgN) [] 0 [] =
   some (.ret,
   [decide ((↑i : Int) < (↑(List.length ls) : Int)) = true,
   (0 : Int) ≤ (↑i : Int) ∧ (↑i : Int) < (↑(List.length ls) : Int),
   decide ((↑(List.length (List.getD ls i [])) : Int) < (1 : Int)) = false,
   decide ((↑(List.length (List.getD ls i [])) : Int) < (1 : Int)) = false,
   decide ((↑(List.length (List.getD ls i [])) : Int) < (1 : Int)) = false,
   (0 : Int) ≤ (↑i : Int) ∧ (↑i : Int) < (↑(List.length ls) : Int),
   decide ((↑(List.length (List.getD ls i [])) : Int) < (1 : Int)) = false,
   decide ((↑(List.length (List.getD ls i [])) : Int) < (1 : Int)) = false,
   decide ((↑(List.length (List.getD ls i [])) : Int) < (1 : Int)) = false,
   decide ((↑(List.length (List.getD ls i [])) : Int) < (1 : Int)) = false,
   decide ((↑(List.length (List.getD ls i [])) : Int) > (63 : Int)) = true,
   decide ((↑(List.length (List.getD ls i [])) : Int) > (63 : Int)) = true,
   decide ((↑(List.length (List.getD ls i [])) : Int) > (63 : Int)) = true]) := by kernel_rfl

set_option maxRecDepth 100000 in
theorem rg_b3 (ls : List (List UInt8)) (i : Nat) (n : Nat) : stepXS noneKnown [(48, { op := [(5, 13, .br false), (5, 17, .br false)], gd := [(5, 7, false), (5, 8, false), (5, 9, false), (5, 10, false), (5, 11, false), (5, 12, false), (5, 15, false), (5, 16, false)], br := [(8, true), (28, true)], ob := [(5, 2), (5, 9)] })] Try.prog 48 3 (rgG ls i n) (rgN) [] 0 [] =
   some (.ret,
   [decide ((↑i : Int) < (↑(List.length ls) : Int)) = true,
   (0 : Int) ≤ (↑i : Int) ∧ (↑i : Int) < (↑(List.length ls) : Int),
   decide ((↑(List.length (List.getD ls i [])) : Int) < (1 : Int)) = false,
   decide ((↑(List.length (List.getD ls i [])) : Int) < (1 : Int)) = false,
   decide ((↑(List.length (List.getD ls i [])) : Int) < (1 : Int)) = false,
   (0 : Int) ≤ (↑i : Int) ∧ (↑i : Int) < (↑(List.length ls) : Int),
   decide ((↑(List.length (List.getD ls i [])) : Int) < (1 : Int)) = false,
   decide ((↑(List.length (List.getD ls i [])) : Int) < (1 : Int)) = false,
   decide ((↑(List.length (List.getD ls i [])) : Int) < (1 : Int)) = false,
   decide ((↑(List.length (List.getD ls i [])) : Int) < (1 : Int)) = false,
   decide ((↑(List.length (List.getD ls i [])) : Int) > (63 : Int)) = false,
   decide ((↑(List.length (List.getD ls i [])) : Int) > (63 : Int)) = false,
   decide ((↑(List.length (List.getD ls i [])) : Int) > (63 : Int)) = false,
   decide ((↑i : Int) > (127 : Int)) = true]) := by kernel_rfl

set_option maxRecDepth 100000 in
theorem rg_end (ls : List (List UInt8)) (i : Nat) (n : Nat) : stepXS noneKnown [(48, { br := [(8, false)] })] Try.prog 48 3 (rgG ls i n) (rgE n) [] 0 [] =
   some (.exit 0,
   [decide ((↑i : Int) < (↑(List.length ls) : Int)) = false,
   AV.val (Value.int IntKind.i64 (↑n : Int)) = AV.val (Value.int IntKind.i64 (↑n : Int))]) := by kernel_rfl

set_option maxRecDepth 100000 in
theorem lg_many (ls : List (List UInt8)) : outXS noneKnown [(47, { br := [(6, true)] })] Try.prog 47 [AV.view (1 : Nat) (List.length ls) fun i => [AV.val (Value.string { data := List.toArray (List.getD ls i []) })]] [] 0 [] [] =
   some (AV.val (Value.bool true), [], 5,
   [decide ((↑(List.length ls) : Int) > (200 : Int)) = true]) := by kernel_rfl

set_option maxRecDepth 100000 in
theorem lg_no (ls : List (List UInt8)) : outXS noneKnown [(47, { br := [(6, false)] })] Try.prog 47 [AV.view (1 : Nat) (List.length ls) fun i => [AV.val (Value.string { data := List.toArray (List.getD ls i []) })]] [] 0 [] [(4, lgL ls)] =
   some (AV.val (Value.bool false), [], 1,
   [decide ((↑(List.length ls) : Int) > (200 : Int)) = false,
   (AV.view (1 : Nat) (List.length ls) fun i => [AV.val (Value.string { data := List.toArray (List.getD ls i []) })]) = AV.view (1 : Nat) (List.length ls) fun i => [AV.val (Value.string { data := List.toArray (List.getD ls i []) })],
   AV.val (Value.int IntKind.i64 (0 : Int)) = AV.val (Value.int IntKind.i64 (0 : Int)),
   EvXL Try.prog 0 (loopAt Try.prog 47 4) (GoalX.st (LoopX.G (lgL ls)) 0) (LoopX.ex (lgL ls)) (GoalX.st (LoopX.E (lgL ls)) 0)]) := by kernel_rfl

set_option maxRecDepth 100000 in
theorem lg_yes (ls : List (List UInt8)) : outXS noneKnown [(47, { br := [(6, false)] })] Try.prog 47 [AV.view (1 : Nat) (List.length ls) fun i => [AV.val (Value.string { data := List.toArray (List.getD ls i []) })]] [] 0 [] [(4, lgR ls)] =
   some (AV.val (Value.bool true), [], 0,
   [decide ((↑(List.length ls) : Int) > (200 : Int)) = false,
   (AV.view (1 : Nat) (List.length ls) fun i => [AV.val (Value.string { data := List.toArray (List.getD ls i []) })]) = AV.view (1 : Nat) (List.length ls) fun i => [AV.val (Value.string { data := List.toArray (List.getD ls i []) })],
   AV.val (Value.int IntKind.i64 (0 : Int)) = AV.val (Value.int IntKind.i64 (0 : Int)),
   EvXL Try.prog 0 (loopAt Try.prog 47 4) (GoalX.st (LoopX.G (lgR ls)) 0) (LoopX.ex (lgR ls)) (GoalX.st (LoopX.E (lgR ls)) 0)]) := by kernel_rfl

set_option maxRecDepth 100000 in
theorem lg_step (ls : List (List UInt8)) (i : Nat) : stepXS noneKnown [(47, { br := [(10, true), (18, false)], ob := [(6, 2)] })] Try.prog 47 4 (lgG ls i) (lgG ls (i + (1 : Nat))) [] 0 [] =
   some (.normal,
   [decide ((↑i : Int) < (↑(List.length ls) : Int)) = true,
   (0 : Int) ≤ (↑i : Int) ∧ (↑i : Int) < (↑(List.length ls) : Int),
   decide ((↑(List.length (List.getD ls i [])) : Int) > (300 : Int)) = false,
   (AV.view (1 : Nat) (List.length ls) fun i => [AV.val (Value.string { data := List.toArray (List.getD ls i []) })]) = AV.view (1 : Nat) (List.length ls) fun i => [AV.val (Value.string { data := List.toArray (List.getD ls i []) })],
   AV.val (Value.int IntKind.i64 (IntKind.wrap IntKind.i64 ((↑i : Int) + (1 : Int)))) = AV.val (Value.int IntKind.i64 (↑(i + (1 : Nat)) : Int))]) := by kernel_rfl

set_option maxRecDepth 100000 in
theorem lg_b (ls : List (List UInt8)) (i : Nat) : stepXS noneKnown [(47, { br := [(10, true), (18, true)], ob := [(6, 2)] })] Try.prog 47 4 (lgG ls i) (lgN) [] 0 [] =
   some (.ret,
   [decide ((↑i : Int) < (↑(List.length ls) : Int)) = true,
   (0 : Int) ≤ (↑i : Int) ∧ (↑i : Int) < (↑(List.length ls) : Int),
   decide ((↑(List.length (List.getD ls i [])) : Int) > (300 : Int)) = true]) := by kernel_rfl

set_option maxRecDepth 100000 in
theorem lg_end (ls : List (List UInt8)) (i : Nat) : stepXS noneKnown [(47, { br := [(10, false)] })] Try.prog 47 4 (lgG ls i) (lgE) [] 0 [] =
   some (.exit 0,
   [decide ((↑i : Int) < (↑(List.length ls) : Int)) = false]) := by kernel_rfl

set_option maxRecDepth 100000 in
theorem rp_yes (b : List UInt8) (ls : List (List UInt8)) : outXS noneKnown [(50, { ob := [(1, 2), (6, 2)] })] Try.prog 50 [AV.bytes b, AV.view (1 : Nat) (List.length ls) fun i => [AV.val (Value.string { data := List.toArray (List.getD ls i []) })]] [] 0 [(3 : Nat)] [(3, rpL b ls)] =
   some (AV.sl 3 (0 : Nat) (List.length (b ++ encL ls) + (1 : Nat)) none, [(3, { t := (5 : Nat), sz := (1 : Nat), exact := false, fz := false, body := Body.bytes (b ++ encL ls ++ [(0 : UInt8)]) })], 5,
   [True,
   (0 : Nat) = (0 : Nat) ∧ (0 : Nat) + List.length b ≤ (1000000000 : Nat),
   (AV.view (1 : Nat) (List.length ls) fun i => [AV.val (Value.string { data := List.toArray (List.getD ls i []) })]) = AV.view (1 : Nat) (List.length ls) fun i => [AV.val (Value.string { data := List.toArray (List.getD ls i []) })],
   AV.val (Value.int IntKind.i64 (0 : Int)) = AV.val (Value.int IntKind.i64 (0 : Int)),
   AV.sl 3 (0 : Nat) ((0 : Nat) + List.length b) none = AV.sl (3 : Nat) (0 : Nat) (List.length b) none,
   SameO (some { t := (5 : Nat), sz := (1 : Nat), exact := false, fz := false, body := Body.bytes b }) { t := (5 : Nat), sz := (1 : Nat), exact := false, fz := false, body := Body.bytes b },
   EvXL Try.prog 0 (loopAt Try.prog 50 3) (GoalX.st (LoopX.G (rpL b ls)) 0) (LoopX.ex (rpL b ls)) (GoalX.st (LoopX.E (rpL b ls)) 0),
   (1 : Nat) ≤ (1 : Nat),
   List.length (b ++ encL ls) = List.length (b ++ encL ls) ∧ List.length (b ++ encL ls) + (1 : Nat) ≤ (1000000000 : Nat)]) := by kernel_rfl

set_option maxRecDepth 100000 in
theorem rp_step (ls : List (List UInt8)) (i : Nat) (a : List UInt8) : stepXS noneKnown [(50, { br := [(13, true)], ob := [(5, 3), (5, 7), (5, 8), (5, 11), (5, 13)] })] Try.prog 50 3 (rpG ls i a) (rpG ls (i + (1 : Nat)) (a ++ UInt8.ofNat (List.length (List.getD ls i [])) :: List.getD ls i [])) [(18 : Nat)] 0 [] =
   some (.normal,
   [decide ((↑i : Int) < (↑(List.length ls) : Int)) = true,
   (0 : Int) ≤ (↑i : Int) ∧ (↑i : Int) < (↑(List.length ls) : Int),
   ∀ (x : AV), x ∈ [AV.val (Value.int IntKind.u8 (IntKind.wrap IntKind.u8 (↑(List.length (List.getD ls i [])) : Int)))] → isByteAV x,
   (1 : Nat) ≤ (1 : Nat),
   List.length a = List.length a ∧ List.length a + (1 : Nat) ≤ (1000000000 : Nat),
   (0 : Int) ≤ (↑i : Int) ∧ (↑i : Int) < (↑(List.length ls) : Int),
   List.length (a ++ [UInt8.ofNat (Int.toNat (IntKind.wrap IntKind.u8 (↑(List.length (List.getD ls i [])) : Int)))]) = List.length a + (1 : Nat) ∧ List.length a + (1 : Nat) + List.length (List.getD ls i []) ≤ (1000000000 : Nat),
   (AV.view (1 : Nat) (List.length ls) fun i => [AV.val (Value.string { data := List.toArray (List.getD ls i []) })]) = AV.view (1 : Nat) (List.length ls) fun i => [AV.val (Value.string { data := List.toArray (List.getD ls i []) })],
   AV.val (Value.int IntKind.i64 (IntKind.wrap IntKind.i64 ((↑i : Int) + (1 : Int)))) = AV.val (Value.int IntKind.i64 (↑(i + (1 : Nat)) : Int)),
   AV.sl 18 (0 : Nat) (List.length a + (1 : Nat) + List.length (List.getD ls i [])) none = AV.sl (18 : Nat) (0 : Nat) (List.length (a ++ UInt8.ofNat (List.length (List.getD ls i [])) :: List.getD ls i [])) none,
   SameO (some { t := (5 : Nat), sz := (1 : Nat), exact := false, fz := false, body := Body.bytes (a ++ [UInt8.ofNat (Int.toNat (IntKind.wrap IntKind.u8 (↑(List.length (List.getD ls i [])) : Int)))] ++ List.getD ls i []) }) { t := (5 : Nat), sz := (1 : Nat), exact := false, fz := false, body := Body.bytes (a ++ UInt8.ofNat (List.length (List.getD ls i [])) :: List.getD ls i []) }]) := by kernel_rfl

set_option maxRecDepth 100000 in
theorem rp_end (ls : List (List UInt8)) (i : Nat) (a : List UInt8) : stepXS noneKnown [(50, { br := [(13, false)] })] Try.prog 50 3 (rpG ls i a) (rpE a) [(0 : Nat)] 0 [] =
   some (.exit 0,
   [decide ((↑i : Int) < (↑(List.length ls) : Int)) = false,
   AV.sl (0 : Nat) (0 : Nat) (List.length a) none = AV.sl (0 : Nat) (0 : Nat) (List.length a) none,
   SameO (some { t := (5 : Nat), sz := (1 : Nat), exact := false, fz := false, body := Body.bytes a }) { t := (5 : Nat), sz := (1 : Nat), exact := false, fz := false, body := Body.bytes a }]) := by kernel_rfl
end Go.Proofs.Ytmilcpejchjleaa

/- The reference's names: what its functions yield. -/
namespace Go.Proofs.Ytmilcpejchjleaa
open Go.RowKit
set_option linter.unusedSimpArgs false

theorem dropStep {ls : List (List UInt8)} {i : Nat} {s : List UInt8} {r : List (List UInt8)} (h : ls.drop i = s :: r) : i < ls.length ∧ ls.getD i [] = s ∧ ls.drop (i + 1) = r := by
  have hi : i < ls.length := by
    rcases Nat.lt_or_ge i ls.length with h' | h'
    · exact h'
    · rw [List.drop_of_length_le h'] at h; cases h
  have hc := List.drop_eq_getElem_cons hi
  rw [h] at hc
  injection hc with hs hr
  exact ⟨hi, by rw [List.getD_eq_getElem?_getD, List.getElem?_eq_getElem hi, hs]; rfl, hr.symm⟩

/-! ### the reference's Good -/
def rgF : Nat → Nat → List (List UInt8) → Option Nat
  | _, n, [] => some n
  | i, n, s :: r => if s.length < 1 ∨ 63 < s.length ∨ 127 < i then none else rgF (i + 1) (n + 1 + s.length) r

theorem rgW (n k : Nat) (hn : n ≤ 100000000) (hk : k ≤ 63) : IntKind.wrap IntKind.i64 (IntKind.wrap IntKind.i64 ((n : Int) + 1) + (k : Int)) = ((n + 1 + k : Nat) : Int) := by
  rw [w64 ((n : Int) + 1) (by omega), w64 _ (by omega)]; omega

theorem rg_loop (ls : List (List UInt8)) : ∀ (rest : List (List UInt8)) (i n : Nat), ls.drop i = rest → i ≤ ls.length → i ≤ 128 → n ≤ 1 + 64 * i →
    EvXL Try.prog 0 (loopAt Try.prog 48 3) ((rgG ls i n).st 0) (if (rgF i n rest).isSome then .exit 0 else .ret) ((match rgF i n rest with | some m => rgE m | none => rgN).st 0)
  | [], i, n, h, hil, hi, hn => by
    have hi : ls.length ≤ i := by simpa using h
    simp only [rgF, Option.isSome_some, if_true]
    exact EvXL.last (stepXS_ok noneKnown_ok (rg_end ls i n) (by
      repeat' (first | exact allNil | refine allCons ?_ ?_ | (with_reducible refine allRp _ ?_ ?_))
      all_goals first | (with_reducible rfl) | exact decide_eq_false (by omega))) (by simp)
  | s :: r, i, n, h, hil, hi1, hn => by
    obtain ⟨hi, hg, hr⟩ := dropStep h
    by_cases h1 : s.length < 1
    · have e : rgF i n (s :: r) = none := if_pos (.inl h1)
      rw [e]
      exact EvXL.last (stepXS_ok noneKnown_ok (rg_b1 ls i n) (by
        rw [hg]
        repeat' (first | exact allNil | refine allCons ?_ ?_ | (with_reducible refine allRp _ ?_ ?_))
        all_goals first | (with_reducible rfl) | exact decide_eq_true (by omega) | exact decide_eq_false (by omega) | omega)) (by simp)
    by_cases h2 : 63 < s.length
    · have e : rgF i n (s :: r) = none := if_pos (.inr (.inl h2))
      rw [e]
      exact EvXL.last (stepXS_ok noneKnown_ok (rg_b2 ls i n) (by
        rw [hg]
        repeat' (first | exact allNil | refine allCons ?_ ?_ | (with_reducible refine allRp _ ?_ ?_))
        all_goals first | (with_reducible rfl) | exact decide_eq_true (by omega) | exact decide_eq_false (by omega) | omega)) (by simp)
    by_cases h3 : 127 < i
    · have e : rgF i n (s :: r) = none := if_pos (.inr (.inr h3))
      rw [e]
      exact EvXL.last (stepXS_ok noneKnown_ok (rg_b3 ls i n) (by
        rw [hg]
        repeat' (first | exact allNil | refine allCons ?_ ?_ | (with_reducible refine allRp _ ?_ ?_))
        all_goals first | (with_reducible rfl) | exact decide_eq_true (by omega) | exact decide_eq_false (by omega) | omega)) (by simp)
    · have e : rgF i n (s :: r) = rgF (i + 1) (n + 1 + s.length) r := if_neg (by omega)
      rw [e]
      refine EvXL.step (stepXS_ok noneKnown_ok (rg_step ls i n) ?_) (by
        rw [hg]
        exact rg_loop ls r (i + 1) (n + 1 + s.length) hr (by omega) (by omega) (by omega))
      rw [hg, rgW n s.length (by omega) (by omega)]
      repeat' (first | exact allNil | refine allCons ?_ ?_ | (with_reducible refine allRp _ ?_ ?_))
      all_goals first | (with_reducible rfl) | exact decide_eq_true (by omega) | exact decide_eq_false (by omega) | exact sI_succ i (by omega) | omega

theorem rgF_good : ∀ (r : List (List UInt8)) (i n : Nat), 1 + 2 * i ≤ n → i ≤ 128 → (match rgF i n r with | some m => decide ((m : Int) ≤ 255) | none => false) = (decide (n ≤ 255) && goodF n r)
  | [], i, n, h, hi => by
    simp only [rgF, goodF, Bool.and_true]
    by_cases h' : n ≤ 255
    · rw [decide_eq_true h', decide_eq_true (by omega)]
    · rw [decide_eq_false h', decide_eq_false (by omega)]
  | s :: r, i, n, h, hi => by
    by_cases h1 : s.length < 1 ∨ 63 < s.length
    · have e : rgF i n (s :: r) = none := if_pos (by omega)
      have e' : goodF n (s :: r) = false := if_pos h1
      rw [e, e']; simp
    by_cases h3 : 127 < i
    · have e : rgF i n (s :: r) = none := if_pos (by omega)
      rw [e, decide_eq_false (by omega)]; simp
    · have e : rgF i n (s :: r) = rgF (i + 1) (n + 1 + s.length) r := if_neg (by omega)
      rw [e, rgF_good r (i + 1) (n + 1 + s.length) (by omega) (by omega)]
      unfold goodF
      rw [if_neg h1]
      by_cases h4 : 255 < n + 1 + s.length
      · rw [if_pos h4, decide_eq_false (by omega)]; simp
      · rw [if_neg h4, decide_eq_true (by omega), decide_eq_true (by omega)]
        cases r <;> rfl

theorem rgood_call (ls : List (List UInt8)) (L : List (Nat × AObj)) (nx : Nat) : ACall Try.prog 48 [vS ls] L nx (.val (.bool (goodN ls))) L nx := by
  have hx : ∀ r, renL r [vS ls] = [vS ls] := fun r => rfl
  have h := rg_loop ls ls 0 1 rfl (by omega) (by omega) (by omega)
  have hv := rgF_good ls 0 1 (by omega) (by omega)
  have hg : (decide (1 ≤ 255) && goodF 1 ls) = goodN ls := by simp [goodN]
  rw [hg] at hv
  rw [← hv]
  cases hr : rgF 0 1 ls with
  | some m =>
    rw [hr] at h
    refine (outXS_ok noneKnown_ok (rg_ok ls m) ?_).lift hx L nx
    repeat' (first | exact allNil | refine allCons ?_ ?_ | (with_reducible refine allRp _ ?_ ?_))
    all_goals first | (with_reducible rfl) | rfl | exact h
  | none =>
    rw [hr] at h
    refine (outXS_ok noneKnown_ok (rg_no ls) ?_).lift hx L nx
    repeat' (first | exact allNil | refine allCons ?_ ?_ | (with_reducible refine allRp _ ?_ ?_))
    all_goals first | (with_reducible rfl) | rfl | exact h
end Go.Proofs.Ytmilcpejchjleaa

/- The reference's Put, and the law's long: what they yield. -/
namespace Go.Proofs.Ytmilcpejchjleaa
open Go.RowKit
set_option linter.unusedSimpArgs false

theorem rput_loop (ls : List (List UInt8)) (hm : ls.length ≤ 1000000) : ∀ (rest : List (List UInt8)) (i : Nat) (a : List UInt8), ls.drop i = rest → i ≤ ls.length → (∀ s ∈ rest, s.length ≤ 63) → a.length + (encL rest).length ≤ 1000000 →
    EvXL Try.prog 0 (loopAt Try.prog 50 3) ((rpG ls i a).st 0) (.exit 0) ((rpE (a ++ encL rest)).st 0)
  | [], i, a, h, hil, hl, ha => by
    have hi : ls.length ≤ i := by simpa using h
    have e : a ++ encL [] = a := by simp [encL]
    rw [e]
    exact EvXL.last (stepXS_ok noneKnown_ok (rp_end ls i a) (by
      repeat' (first | exact allNil | refine allCons ?_ ?_ | (with_reducible refine allRp _ ?_ ?_))
      all_goals first | (with_reducible rfl) | exact decide_eq_false (by omega) | (simp [SameO]; done))) (by simp)
  | s :: r, i, a, h, hil, hl, ha => by
    obtain ⟨hi, hg, hr⟩ := dropStep h
    have h63 : s.length ≤ 63 := hl s (List.mem_cons_self ..)
    have e : a ++ encL (s :: r) = (a ++ UInt8.ofNat s.length :: s) ++ encL r := by simp [encL]
    have hln : (encL (s :: r)).length = 1 + s.length + (encL r).length := by simp [encL]; omega
    rw [hln] at ha
    rw [e]
    refine EvXL.step (stepXS_ok noneKnown_ok (rp_step ls i a) ?_) (by
      rw [hg]
      exact rput_loop ls hm r (i + 1) _ hr (by omega) (fun t ht => hl t (List.mem_cons_of_mem _ ht)) (by simp; omega))
    rw [hg, putLen _ h63]
    repeat' (first | exact allNil | refine allCons ?_ ?_ | (with_reducible refine allRp _ ?_ ?_))
    all_goals first | (with_reducible rfl) | exact decide_eq_true (by omega) | exact sI_succ i (by omega) | (simp; omega) | (simp; done) | (simp [SameO]; done) | (simp; constructor <;> omega) | (intro x hx; rw [List.mem_singleton.1 hx]; exact ⟨by rw [wu8]; omega, by rw [wu8]; omega⟩) | omega | skip

theorem rput_ok (b : List UInt8) (ls : List (List UInt8)) (hk : lsK ls) (hg : goodN ls = true) (hb : b.length ≤ 900000) :
    ACall Try.prog 50 [.bytes b, vS ls] [] 0 (.sl 3 0 ((b ++ encL ls).length + 1) none) [(3, puO (b ++ encL ls ++ [0]))] 5 := by
  have he := goodF_enc 1 ls hg (by decide)
  have hl := rput_loop ls hk.1 ls 0 b rfl (by omega) he.2 (by omega)
  refine outXS_ok noneKnown_ok (rp_yes b ls) ?_
  have hle : (b ++ encL ls).length + 1 ≤ 1000000000 := by simp; omega
  repeat' (first | exact allNil | refine allCons ?_ ?_ | (with_reducible refine allRp _ ?_ ?_))
  all_goals first | (with_reducible rfl) | exact hl | exact ⟨rfl, hle⟩ | trivial | (simp; omega) | (simp; done) | (simp [SameO]; done) | skip

/-! ### long -/
def longR (ls : List (List UInt8)) : Bool := ls.any fun s => decide (300 < s.length)
def longN (ls : List (List UInt8)) : Bool := decide (200 < ls.length) || longR ls

theorem long_loop (ls : List (List UInt8)) (hm : ls.length ≤ 1000000) : ∀ (rest : List (List UInt8)) (i : Nat), ls.drop i = rest → i ≤ ls.length →
    EvXL Try.prog 0 (loopAt Try.prog 47 4) ((lgG ls i).st 0) (if longR rest then .ret else .exit 0) ((if longR rest then lgN else lgE).st 0)
  | [], i, h, hil => by
    have hi : ls.length ≤ i := by simpa using h
    simp only [longR, List.any_nil, Bool.false_eq_true, if_false]
    exact EvXL.last (stepXS_ok noneKnown_ok (lg_end ls i) (by
      repeat' (first | exact allNil | refine allCons ?_ ?_ | (with_reducible refine allRp _ ?_ ?_))
      all_goals first | (with_reducible rfl) | exact decide_eq_false (by omega))) (by simp)
  | s :: r, i, h, hil => by
    obtain ⟨hi, hg, hr⟩ := dropStep h
    by_cases h1 : 300 < s.length
    · have e : longR (s :: r) = true := by simp [longR, h1]
      rw [e]
      simp only [if_true]
      exact EvXL.last (stepXS_ok noneKnown_ok (lg_b ls i) (by
        rw [hg]
        repeat' (first | exact allNil | refine allCons ?_ ?_ | (with_reducible refine allRp _ ?_ ?_))
        all_goals first | (with_reducible rfl) | exact decide_eq_true (by omega) | exact decide_eq_false (by omega) | omega)) (by simp)
    · have e : longR (s :: r) = longR r := by simp [longR, h1]
      rw [e]
      refine EvXL.step (stepXS_ok noneKnown_ok (lg_step ls i) ?_) (long_loop ls hm r (i + 1) hr (by omega))
      rw [hg]
      repeat' (first | exact allNil | refine allCons ?_ ?_ | (with_reducible refine allRp _ ?_ ?_))
      all_goals first | (with_reducible rfl) | exact decide_eq_true (by omega) | exact decide_eq_false (by omega) | exact sI_succ i (by omega) | omega

theorem long_call (ls : List (List UInt8)) (L : List (Nat × AObj)) (nx : Nat) : ACall Try.prog 47 [vS ls] L nx (.val (.bool (longN ls))) L nx := by
  have hx : ∀ r, renL r [vS ls] = [vS ls] := fun r => rfl
  by_cases h2 : 200 < ls.length
  · have e : longN ls = true := by simp [longN, h2]
    rw [e]
    refine (outXS_ok noneKnown_ok (lg_many ls) ?_).lift hx L nx
    repeat' (first | exact allNil | refine allCons ?_ ?_ | (with_reducible refine allRp _ ?_ ?_))
    all_goals first | (with_reducible rfl) | exact decide_eq_true (by omega)
  have e : longN ls = longR ls := by simp [longN, h2]
  rw [e]
  have h := long_loop ls (by omega) ls 0 rfl (by omega)
  cases hg : longR ls with
  | true =>
    rw [hg] at h
    refine (outXS_ok noneKnown_ok (lg_yes ls) ?_).lift hx L nx
    repeat' (first | exact allNil | refine allCons ?_ ?_ | (with_reducible refine allRp _ ?_ ?_))
    all_goals first | (with_reducible rfl) | exact decide_eq_false (by omega) | exact h
  | false =>
    rw [hg] at h
    refine (outXS_ok noneKnown_ok (lg_no ls) ?_).lift hx L nx
    repeat' (first | exact allNil | refine allCons ?_ ?_ | (with_reducible refine allRp _ ?_ ?_))
    all_goals first | (with_reducible rfl) | exact decide_eq_false (by omega) | exact h
end Go.Proofs.Ytmilcpejchjleaa
