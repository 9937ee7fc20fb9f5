/- Several texts in one: Nc0, NcaRun, Nca. -/
import Derived.Test.YtmilcpejchjleaaMnb
import Derived.Test.YtmilcpejchjleaaLa

/- Names whose letters are turned: words, and what the heads of the loops say. -/
namespace Go.Proofs.Ytmilcpejchjleaa
open Go.RowKit

def isLet (c : UInt8) : Bool := decide (97 ≤ c.toNat ∧ c.toNat ≤ 122) || decide (65 ≤ c.toNat ∧ c.toNat ≤ 90)
/-- a sign, turned or not -/
def twC (t : Bool) (c : UInt8) : UInt8 := if t && isLet c then c ^^^ 32 else c
/-- a label, turned from the k-th on -/
def twL (tb : List Bool) : Nat → List UInt8 → List UInt8
  | _, [] => []
  | k, c :: r => twC (tb.getD k false) c :: twL tb (k + 1) r
def twN (tb : List Bool) : Nat → List (List UInt8) → List (List UInt8)
  | _, [] => []
  | k, s :: r => twL tb k s :: twN tb (k + s.length) r
def vT (tb : List Bool) : AV := .view 1 tb.length fun i => [.val (.bool (tb.getD i false))]

def ncB (x : List UInt8) : AObj := ⟨5, 1, false, true, .bytes x⟩
def ncG0 (ls : List (List UInt8)) (tb : List Bool) (i k : Nat) : GoalX := { len := 100, tms := [(5, nilS)], opn := [(0, vS ls), (1, vT tb), (7, sI i), (6, sI k)] }
def ncG1 (ls : List (List UInt8)) (tb : List Bool) (i k : Nat) (m : List (List UInt8)) : GoalX := { len := 100, opn := [(0, vS ls), (1, vT tb), (7, sI i), (6, sI k), (5, .sl 0 0 m.length none)], oob := [(0, objFlat 9 1 (rowsL m))], k := 1 }
def ncG1r (ls : List (List UInt8)) (tb : List Bool) (i k : Nat) (m : List (List UInt8)) : GoalX := { len := 100, opn := [(0, vS ls), (1, vT tb), (7, sI i), (6, sI k), (5, .sl 0 0 m.length none)], oob := [(0, objAppR 9 1 (rowsL m))], k := 1 }
def ncH0 (ls : List (List UInt8)) (tb : List Bool) (i k q : Nat) (x : List UInt8) : GoalX := { len := 100, tms := [(5, nilS)], opn := [(0, vS ls), (1, vT tb), (7, sI i), (6, sI k), (9, sI q), (8, .sl 0 0 x.length none)], oob := [(0, ncB x)], k := 1 }
def ncH1 (ls : List (List UInt8)) (tb : List Bool) (i k q : Nat) (x : List UInt8) (m : List (List UInt8)) : GoalX := { len := 100, opn := [(0, vS ls), (1, vT tb), (7, sI i), (6, sI k), (9, sI q), (5, .sl 0 0 m.length none), (8, .sl 1 0 x.length none)], oob := [(0, objFlat 9 1 (rowsL m)), (1, ncB x)], k := 2 }
def ncK0 (ls : List (List UInt8)) (tb : List Bool) (i k : Nat) (x : List UInt8) : GoalX := { len := 100, tms := [(5, nilS)], opn := [(0, vS ls), (1, vT tb), (7, sI i), (6, sI k), (8, .sl 0 0 x.length none)], oob := [(0, ncB x)], k := 1 }
def ncK1 (ls : List (List UInt8)) (tb : List Bool) (i k : Nat) (x : List UInt8) (m : List (List UInt8)) : GoalX := { len := 100, opn := [(0, vS ls), (1, vT tb), (7, sI i), (6, sI k), (5, .sl 0 0 m.length none), (8, .sl 1 0 x.length none)], oob := [(0, objFlat 9 1 (rowsL m)), (1, ncB x)], k := 2 }
def ncE0 (ls : List (List UInt8)) : GoalX := { len := 100, tms := [(5, nilS)], opn := [(0, vS ls)] }
def ncE1 (ls m : List (List UInt8)) : GoalX := { len := 100, opn := [(0, vS ls), (5, .sl 0 0 m.length none)], oob := [(0, objFlat 9 1 (rowsL m))], k := 1 }
def ncL (ls : List (List UInt8)) (tb : List Bool) (E : GoalX) : LoopX := { ids := [], G := ncG0 ls tb 0 0, ex := .exit 0, E := E }
def niL (ids : List Nat) (G E : GoalX) : LoopX := { ids := ids, G := G, ex := .exit 2, E := E }
def kC : Inl := orInl kEqf (orInl kLong kN)
theorem kC_ok : InlOk Try.prog kC := orInl_ok kEqf_ok (orInl_ok kLong_ok kN_ok)
end Go.Proofs.Ytmilcpejchjleaa

/- Names whose letters are turned: the law, reckoned. -/
namespace Go.Proofs.Ytmilcpejchjleaa
open Go.RowKit

set_option maxRecDepth 100000 in
theorem ni_far0 (ls : List (List UInt8)) (tb : List Bool) (i : Nat) (k : Nat) (q : Nat) (x : List UInt8) : stepXS kC [(16, { op := [(14, 9, .br false)], gd := [(14, 5, false), (14, 6, false), (14, 7, false), (14, 8, false)], br := [(28, true)] })] Try.prog 16 12 (ncH0 ls tb i k q x) (ncH0 ls tb i (k + (1 : Nat)) (q + (1 : Nat)) x) [(0 : Nat)] 0 [] =
   some (.normal,
   [decide ((↑q : Int) < (↑(List.length x) : Int)) = true,
   decide ((↑k : Int) < (↑(List.length tb) : Int)) = false,
   decide ((↑k : Int) < (↑(List.length tb) : Int)) = false,
   decide ((↑k : Int) < (↑(List.length tb) : Int)) = false,
   decide ((↑k : Int) < (↑(List.length tb) : Int)) = false,
   decide ((↑k : Int) < (↑(List.length tb) : Int)) = false,
   (AV.view (1 : Nat) (List.length ls) fun i => [AV.val (Value.string { data := List.toArray (List.getD ls i []) })]) = AV.view (1 : Nat) (List.length ls) fun i => [AV.val (Value.string { data := List.toArray (List.getD ls i []) })],
   (AV.view (1 : Nat) (List.length tb) fun i => [AV.val (Value.bool (List.getD tb i false))]) = AV.view (1 : Nat) (List.length tb) fun i => [AV.val (Value.bool (List.getD tb i false))],
   AV.val (Value.int IntKind.i64 (↑i : Int)) = AV.val (Value.int IntKind.i64 (↑i : Int)),
   AV.val (Value.int IntKind.i64 (IntKind.wrap IntKind.i64 ((↑k : Int) + (1 : Int)))) = AV.val (Value.int IntKind.i64 (↑(k + (1 : Nat)) : Int)),
   AV.val (Value.int IntKind.i64 (IntKind.wrap IntKind.i64 ((↑q : Int) + (1 : Int)))) = AV.val (Value.int IntKind.i64 (↑(q + (1 : Nat)) : Int)),
   AV.sl (0 : Nat) (0 : Nat) (List.length x) none = AV.sl (0 : Nat) (0 : Nat) (List.length x) none,
   SameO (some { t := (5 : Nat), sz := (1 : Nat), exact := false, fz := true, body := Body.bytes x }) { t := (5 : Nat), sz := (1 : Nat), exact := false, fz := true, body := Body.bytes x }]) := by kernel_rfl

set_option maxRecDepth 100000 in
theorem ni_no0 (ls : List (List UInt8)) (tb : List Bool) (i : Nat) (k : Nat) (q : Nat) (x : List UInt8) : stepXS kC [(16, { op := [(14, 9, .br true), (14, 37, .br false)], gd := [(14, 5, true), (14, 6, true), (14, 7, true), (14, 8, true), (14, 11, false), (14, 12, false), (14, 13, false), (14, 14, false), (14, 15, false), (14, 16, false), (14, 22, false), (14, 23, false), (14, 36, false)], br := [(28, true)], ob := [(14, 7)] })] Try.prog 16 12 (ncH0 ls tb i k q x) (ncH0 ls tb i (k + (1 : Nat)) (q + (1 : Nat)) x) [(0 : Nat)] 0 [] =
   some (.normal,
   [decide ((↑q : Int) < (↑(List.length x) : Int)) = true,
   decide ((↑k : Int) < (↑(List.length tb) : Int)) = true,
   decide ((↑k : Int) < (↑(List.length tb) : Int)) = true,
   decide ((↑k : Int) < (↑(List.length tb) : Int)) = true,
   (0 : Int) ≤ (↑k : Int) ∧ (↑k : Int) < (↑(List.length tb) : Int),
   decide ((↑k : Int) < (↑(List.length tb) : Int)) = true,
   decide ((↑k : Int) < (↑(List.length tb) : Int)) = true,
   List.getD tb k false = false,
   List.getD tb k false = false,
   List.getD tb k false = false,
   List.getD tb k false = false,
   List.getD tb k false = false,
   List.getD tb k false = false,
   List.getD tb k false = false,
   List.getD tb k false = false,
   List.getD tb k false = false,
   List.getD tb k false = false,
   (AV.view (1 : Nat) (List.length ls) fun i => [AV.val (Value.string { data := List.toArray (List.getD ls i []) })]) = AV.view (1 : Nat) (List.length ls) fun i => [AV.val (Value.string { data := List.toArray (List.getD ls i []) })],
   (AV.view (1 : Nat) (List.length tb) fun i => [AV.val (Value.bool (List.getD tb i false))]) = AV.view (1 : Nat) (List.length tb) fun i => [AV.val (Value.bool (List.getD tb i false))],
   AV.val (Value.int IntKind.i64 (↑i : Int)) = AV.val (Value.int IntKind.i64 (↑i : Int)),
   AV.val (Value.int IntKind.i64 (IntKind.wrap IntKind.i64 ((↑k : Int) + (1 : Int)))) = AV.val (Value.int IntKind.i64 (↑(k + (1 : Nat)) : Int)),
   AV.val (Value.int IntKind.i64 (IntKind.wrap IntKind.i64 ((↑q : Int) + (1 : Int)))) = AV.val (Value.int IntKind.i64 (↑(q + (1 : Nat)) : Int)),
   AV.sl (0 : Nat) (0 : Nat) (List.length x) none = AV.sl (0 : Nat) (0 : Nat) (List.length x) none,
   SameO (some { t := (5 : Nat), sz := (1 : Nat), exact := false, fz := true, body := Body.bytes x }) { t := (5 : Nat), sz := (1 : Nat), exact := false, fz := true, body := Body.bytes x }]) := by kernel_rfl

set_option maxRecDepth 100000 in
theorem ni_sm0 (ls : List (List UInt8)) (tb : List Bool) (i : Nat) (k : Nat) (q : Nat) (x : List UInt8) : stepXS kC [(16, { op := [(14, 9, .br true), (14, 14, .get), (14, 20, .get), (14, 22, .br true), (14, 36, .br true), (14, 37, .br true), (15, 5, .get)], gd := [(14, 5, true), (14, 6, true), (14, 7, true), (14, 8, true), (14, 11, true), (14, 12, true), (14, 13, true), (14, 14, true), (14, 15, true), (14, 16, true), (14, 17, true), (14, 18, true), (14, 19, true), (14, 20, true), (14, 21, true), (14, 22, true), (14, 23, true), (14, 24, true), (14, 25, true), (14, 26, true), (14, 27, true), (14, 28, true), (14, 29, true), (14, 35, true), (14, 36, true)], br := [(28, true)], ob := [(14, 7), (14, 13), (14, 14), (14, 19), (14, 20), (15, 4), (15, 5), (15, 7), (15, 8)] })] Try.prog 16 12 (ncH0 ls tb i k q x) (ncH0 ls tb i (k + (1 : Nat)) (q + (1 : Nat)) (List.set x q (List.getD x q (0 : UInt8) ^^^ (32 : UInt8)))) [(0 : Nat)] 0 [] =
   some (.normal,
   [decide ((↑q : Int) < (↑(List.length x) : Int)) = true,
   decide ((↑k : Int) < (↑(List.length tb) : Int)) = true,
   decide ((↑k : Int) < (↑(List.length tb) : Int)) = true,
   decide ((↑k : Int) < (↑(List.length tb) : Int)) = true,
   (0 : Int) ≤ (↑k : Int) ∧ (↑k : Int) < (↑(List.length tb) : Int),
   decide ((↑k : Int) < (↑(List.length tb) : Int)) = true,
   decide ((↑k : Int) < (↑(List.length tb) : Int)) = true,
   List.getD tb k false = true,
   List.getD tb k false = true,
   List.getD tb k false = true,
   (0 : Int) ≤ (↑q : Int) ∧ (↑q : Int) < (↑(List.length x) : Int),
   List.getD tb k false = true,
   (0 : Nat) + q < List.length x,
   List.getD tb k false = true,
   List.getD tb k false = true,
   decide ((↑(UInt8.toNat (List.getD x ((0 : Nat) + q) (0 : UInt8))) : Int) ≥ (97 : Int)) = true,
   decide ((↑(UInt8.toNat (List.getD x ((0 : Nat) + q) (0 : UInt8))) : Int) ≥ (97 : Int)) = true,
   decide ((↑(UInt8.toNat (List.getD x ((0 : Nat) + q) (0 : UInt8))) : Int) ≥ (97 : Int)) = true,
   (0 : Int) ≤ (↑q : Int) ∧ (↑q : Int) < (↑(List.length x) : Int),
   decide ((↑(UInt8.toNat (List.getD x ((0 : Nat) + q) (0 : UInt8))) : Int) ≥ (97 : Int)) = true,
   (0 : Nat) + q < List.length x,
   decide ((↑(UInt8.toNat (List.getD x ((0 : Nat) + q) (0 : UInt8))) : Int) ≥ (97 : Int)) = true,
   List.getD tb k false = true,
   decide ((↑(UInt8.toNat (List.getD x ((0 : Nat) + q) (0 : UInt8))) : Int) ≥ (97 : Int)) = true,
   List.getD tb k false = true,
   decide ((↑(UInt8.toNat (List.getD x ((0 : Nat) + q) (0 : UInt8))) : Int) ≤ (122 : Int)) = true,
   decide ((↑(UInt8.toNat (List.getD x ((0 : Nat) + q) (0 : UInt8))) : Int) ≤ (122 : Int)) = true,
   decide ((↑(UInt8.toNat (List.getD x ((0 : Nat) + q) (0 : UInt8))) : Int) ≤ (122 : Int)) = true,
   decide ((↑(UInt8.toNat (List.getD x ((0 : Nat) + q) (0 : UInt8))) : Int) ≤ (122 : Int)) = true,
   decide ((↑(UInt8.toNat (List.getD x ((0 : Nat) + q) (0 : UInt8))) : Int) ≤ (122 : Int)) = true,
   decide ((↑(UInt8.toNat (List.getD x ((0 : Nat) + q) (0 : UInt8))) : Int) ≤ (122 : Int)) = true,
   decide ((↑(UInt8.toNat (List.getD x ((0 : Nat) + q) (0 : UInt8))) : Int) ≤ (122 : Int)) = true,
   List.getD tb k false = true,
   decide ((↑(UInt8.toNat (List.getD x ((0 : Nat) + q) (0 : UInt8))) : Int) ≤ (122 : Int)) = true,
   List.getD tb k false = true,
   (0 : Int) ≤ (↑q : Int) ∧ (↑q : Int) < (↑(List.length x) : Int),
   (0 : Nat) + q < List.length x,
   (0 : Int) ≤ (↑q : Int) ∧ (↑q : Int) < (↑(List.length x) : Int),
   (0 : Nat) + q < List.length x,
   isByteAV (AV.val (Value.int IntKind.u8 (bits BinOp.xor IntKind.u8 (↑(UInt8.toNat (List.getD x ((0 : Nat) + q) (0 : UInt8))) : Int) (32 : Int)))),
   (AV.view (1 : Nat) (List.length ls) fun i => [AV.val (Value.string { data := List.toArray (List.getD ls i []) })]) = AV.view (1 : Nat) (List.length ls) fun i => [AV.val (Value.string { data := List.toArray (List.getD ls i []) })],
   (AV.view (1 : Nat) (List.length tb) fun i => [AV.val (Value.bool (List.getD tb i false))]) = AV.view (1 : Nat) (List.length tb) fun i => [AV.val (Value.bool (List.getD tb i false))],
   AV.val (Value.int IntKind.i64 (↑i : Int)) = AV.val (Value.int IntKind.i64 (↑i : Int)),
   AV.val (Value.int IntKind.i64 (IntKind.wrap IntKind.i64 ((↑k : Int) + (1 : Int)))) = AV.val (Value.int IntKind.i64 (↑(k + (1 : Nat)) : Int)),
   AV.val (Value.int IntKind.i64 (IntKind.wrap IntKind.i64 ((↑q : Int) + (1 : Int)))) = AV.val (Value.int IntKind.i64 (↑(q + (1 : Nat)) : Int)),
   AV.sl (0 : Nat) (0 : Nat) (List.length x) none = AV.sl (0 : Nat) (0 : Nat) (List.length (List.set x q (List.getD x q (0 : UInt8) ^^^ (32 : UInt8)))) none,
   SameO (some { t := (5 : Nat), sz := (1 : Nat), exact := false, fz := true, body := Body.bytes (List.set x ((0 : Nat) + q) (UInt8.ofNat (Int.toNat (bits BinOp.xor IntKind.u8 (↑(UInt8.toNat (List.getD x ((0 : Nat) + q) (0 : UInt8))) : Int) (32 : Int))))) }) { t := (5 : Nat), sz := (1 : Nat), exact := false, fz := true, body := Body.bytes (List.set x q (List.getD x q (0 : UInt8) ^^^ (32 : UInt8))) }]) := by kernel_rfl

set_option maxRecDepth 100000 in
theorem ni_gr0 (ls : List (List UInt8)) (tb : List Bool) (i : Nat) (k : Nat) (q : Nat) (x : List UInt8) : stepXS kC [(16, { op := [(14, 9, .br true), (14, 14, .get), (14, 22, .br false), (14, 27, .get), (14, 33, .get), (14, 35, .br true), (14, 37, .br true), (15, 5, .get)], gd := [(14, 5, true), (14, 6, true), (14, 7, true), (14, 8, true), (14, 11, true), (14, 12, true), (14, 13, true), (14, 14, true), (14, 15, true), (14, 16, true), (14, 17, false), (14, 18, false), (14, 19, false), (14, 20, false), (14, 21, false), (14, 22, true), (14, 23, true), (14, 30, true), (14, 31, true), (14, 32, true), (14, 33, true), (14, 34, true), (14, 36, true)], br := [(28, true), (68, true)], ob := [(14, 7), (14, 13), (14, 14), (14, 26), (14, 27), (14, 32), (14, 33), (15, 4), (15, 5), (15, 7), (15, 8)] })] Try.prog 16 12 (ncH0 ls tb i k q x) (ncH0 ls tb i (k + (1 : Nat)) (q + (1 : Nat)) (List.set x q (List.getD x q (0 : UInt8) ^^^ (32 : UInt8)))) [(0 : Nat)] 0 [] =
   some (.normal,
   [decide ((↑q : Int) < (↑(List.length x) : Int)) = true,
   decide ((↑k : Int) < (↑(List.length tb) : Int)) = true,
   decide ((↑k : Int) < (↑(List.length tb) : Int)) = true,
   decide ((↑k : Int) < (↑(List.length tb) : Int)) = true,
   (0 : Int) ≤ (↑k : Int) ∧ (↑k : Int) < (↑(List.length tb) : Int),
   decide ((↑k : Int) < (↑(List.length tb) : Int)) = true,
   decide ((↑k : Int) < (↑(List.length tb) : Int)) = true,
   List.getD tb k false = true,
   List.getD tb k false = true,
   List.getD tb k false = true,
   (0 : Int) ≤ (↑q : Int) ∧ (↑q : Int) < (↑(List.length x) : Int),
   List.getD tb k false = true,
   (0 : Nat) + q < List.length x,
   List.getD tb k false = true,
   List.getD tb k false = true,
   decide ((↑(UInt8.toNat (List.getD x ((0 : Nat) + q) (0 : UInt8))) : Int) ≥ (97 : Int)) = false,
   decide ((↑(UInt8.toNat (List.getD x ((0 : Nat) + q) (0 : UInt8))) : Int) ≥ (97 : Int)) = false,
   decide ((↑(UInt8.toNat (List.getD x ((0 : Nat) + q) (0 : UInt8))) : Int) ≥ (97 : Int)) = false,
   decide ((↑(UInt8.toNat (List.getD x ((0 : Nat) + q) (0 : UInt8))) : Int) ≥ (97 : Int)) = false,
   decide ((↑(UInt8.toNat (List.getD x ((0 : Nat) + q) (0 : UInt8))) : Int) ≥ (97 : Int)) = false,
   List.getD tb k false = true,
   decide ((↑(UInt8.toNat (List.getD x ((0 : Nat) + q) (0 : UInt8))) : Int) ≥ (97 : Int)) = false,
   List.getD tb k false = true,
   (0 : Int) ≤ (↑q : Int) ∧ (↑q : Int) < (↑(List.length x) : Int),
   (0 : Nat) + q < List.length x,
   decide ((↑(UInt8.toNat (List.getD x ((0 : Nat) + q) (0 : UInt8))) : Int) ≥ (65 : Int)) = true,
   decide ((↑(UInt8.toNat (List.getD x ((0 : Nat) + q) (0 : UInt8))) : Int) ≥ (65 : Int)) = true,
   decide ((↑(UInt8.toNat (List.getD x ((0 : Nat) + q) (0 : UInt8))) : Int) ≥ (65 : Int)) = true,
   (0 : Int) ≤ (↑q : Int) ∧ (↑q : Int) < (↑(List.length x) : Int),
   decide ((↑(UInt8.toNat (List.getD x ((0 : Nat) + q) (0 : UInt8))) : Int) ≥ (65 : Int)) = true,
   (0 : Nat) + q < List.length x,
   decide ((↑(UInt8.toNat (List.getD x ((0 : Nat) + q) (0 : UInt8))) : Int) ≥ (65 : Int)) = true,
   decide ((↑(UInt8.toNat (List.getD x ((0 : Nat) + q) (0 : UInt8))) : Int) ≥ (65 : Int)) = true,
   List.getD tb k false = true,
   List.getD tb k false = true,
   decide ((↑(UInt8.toNat (List.getD x ((0 : Nat) + q) (0 : UInt8))) : Int) ≤ (90 : Int)) = true,
   (0 : Int) ≤ (↑q : Int) ∧ (↑q : Int) < (↑(List.length x) : Int),
   (0 : Nat) + q < List.length x,
   (0 : Int) ≤ (↑q : Int) ∧ (↑q : Int) < (↑(List.length x) : Int),
   (0 : Nat) + q < List.length x,
   isByteAV (AV.val (Value.int IntKind.u8 (bits BinOp.xor IntKind.u8 (↑(UInt8.toNat (List.getD x ((0 : Nat) + q) (0 : UInt8))) : Int) (32 : Int)))),
   (AV.view (1 : Nat) (List.length ls) fun i => [AV.val (Value.string { data := List.toArray (List.getD ls i []) })]) = AV.view (1 : Nat) (List.length ls) fun i => [AV.val (Value.string { data := List.toArray (List.getD ls i []) })],
   (AV.view (1 : Nat) (List.length tb) fun i => [AV.val (Value.bool (List.getD tb i false))]) = AV.view (1 : Nat) (List.length tb) fun i => [AV.val (Value.bool (List.getD tb i false))],
   AV.val (Value.int IntKind.i64 (↑i : Int)) = AV.val (Value.int IntKind.i64 (↑i : Int)),
   AV.val (Value.int IntKind.i64 (IntKind.wrap IntKind.i64 ((↑k : Int) + (1 : Int)))) = AV.val (Value.int IntKind.i64 (↑(k + (1 : Nat)) : Int)),
   AV.val (Value.int IntKind.i64 (IntKind.wrap IntKind.i64 ((↑q : Int) + (1 : Int)))) = AV.val (Value.int IntKind.i64 (↑(q + (1 : Nat)) : Int)),
   AV.sl (0 : Nat) (0 : Nat) (List.length x) none = AV.sl (0 : Nat) (0 : Nat) (List.length (List.set x q (List.getD x q (0 : UInt8) ^^^ (32 : UInt8)))) none,
   SameO (some { t := (5 : Nat), sz := (1 : Nat), exact := false, fz := true, body := Body.bytes (List.set x ((0 : Nat) + q) (UInt8.ofNat (Int.toNat (bits BinOp.xor IntKind.u8 (↑(UInt8.toNat (List.getD x ((0 : Nat) + q) (0 : UInt8))) : Int) (32 : Int))))) }) { t := (5 : Nat), sz := (1 : Nat), exact := false, fz := true, body := Body.bytes (List.set x q (List.getD x q (0 : UInt8) ^^^ (32 : UInt8))) }]) := by kernel_rfl

set_option maxRecDepth 100000 in
theorem ni_lo0 (ls : List (List UInt8)) (tb : List Bool) (i : Nat) (k : Nat) (q : Nat) (x : List UInt8) : stepXS kC [(16, { op := [(14, 9, .br true), (14, 14, .get), (14, 22, .br false), (14, 27, .get), (14, 35, .br false), (14, 37, .br true)], gd := [(14, 5, true), (14, 6, true), (14, 7, true), (14, 8, true), (14, 11, true), (14, 12, true), (14, 13, true), (14, 14, true), (14, 15, true), (14, 16, true), (14, 17, false), (14, 18, false), (14, 19, false), (14, 20, false), (14, 21, false), (14, 22, true), (14, 23, true), (14, 30, false), (14, 31, false), (14, 32, false), (14, 33, false), (14, 34, false), (14, 36, true)], br := [(28, true)], ob := [(14, 7), (14, 13), (14, 14), (14, 26), (14, 27)] })] Try.prog 16 12 (ncH0 ls tb i k q x) (ncH0 ls tb i (k + (1 : Nat)) (q + (1 : Nat)) x) [(0 : Nat)] 0 [] =
   some (.normal,
   [decide ((↑q : Int) < (↑(List.length x) : Int)) = true,
   decide ((↑k : Int) < (↑(List.length tb) : Int)) = true,
   decide ((↑k : Int) < (↑(List.length tb) : Int)) = true,
   decide ((↑k : Int) < (↑(List.length tb) : Int)) = true,
   (0 : Int) ≤ (↑k : Int) ∧ (↑k : Int) < (↑(List.length tb) : Int),
   decide ((↑k : Int) < (↑(List.length tb) : Int)) = true,
   decide ((↑k : Int) < (↑(List.length tb) : Int)) = true,
   List.getD tb k false = true,
   List.getD tb k false = true,
   List.getD tb k false = true,
   (0 : Int) ≤ (↑q : Int) ∧ (↑q : Int) < (↑(List.length x) : Int),
   List.getD tb k false = true,
   (0 : Nat) + q < List.length x,
   List.getD tb k false = true,
   List.getD tb k false = true,
   decide ((↑(UInt8.toNat (List.getD x ((0 : Nat) + q) (0 : UInt8))) : Int) ≥ (97 : Int)) = false,
   decide ((↑(UInt8.toNat (List.getD x ((0 : Nat) + q) (0 : UInt8))) : Int) ≥ (97 : Int)) = false,
   decide ((↑(UInt8.toNat (List.getD x ((0 : Nat) + q) (0 : UInt8))) : Int) ≥ (97 : Int)) = false,
   decide ((↑(UInt8.toNat (List.getD x ((0 : Nat) + q) (0 : UInt8))) : Int) ≥ (97 : Int)) = false,
   decide ((↑(UInt8.toNat (List.getD x ((0 : Nat) + q) (0 : UInt8))) : Int) ≥ (97 : Int)) = false,
   List.getD tb k false = true,
   decide ((↑(UInt8.toNat (List.getD x ((0 : Nat) + q) (0 : UInt8))) : Int) ≥ (97 : Int)) = false,
   List.getD tb k false = true,
   (0 : Int) ≤ (↑q : Int) ∧ (↑q : Int) < (↑(List.length x) : Int),
   (0 : Nat) + q < List.length x,
   decide ((↑(UInt8.toNat (List.getD x ((0 : Nat) + q) (0 : UInt8))) : Int) ≥ (65 : Int)) = false,
   decide ((↑(UInt8.toNat (List.getD x ((0 : Nat) + q) (0 : UInt8))) : Int) ≥ (65 : Int)) = false,
   decide ((↑(UInt8.toNat (List.getD x ((0 : Nat) + q) (0 : UInt8))) : Int) ≥ (65 : Int)) = false,
   decide ((↑(UInt8.toNat (List.getD x ((0 : Nat) + q) (0 : UInt8))) : Int) ≥ (65 : Int)) = false,
   decide ((↑(UInt8.toNat (List.getD x ((0 : Nat) + q) (0 : UInt8))) : Int) ≥ (65 : Int)) = false,
   decide ((↑(UInt8.toNat (List.getD x ((0 : Nat) + q) (0 : UInt8))) : Int) ≥ (65 : Int)) = false,
   List.getD tb k false = true,
   List.getD tb k false = true,
   (AV.view (1 : Nat) (List.length ls) fun i => [AV.val (Value.string { data := List.toArray (List.getD ls i []) })]) = AV.view (1 : Nat) (List.length ls) fun i => [AV.val (Value.string { data := List.toArray (List.getD ls i []) })],
   (AV.view (1 : Nat) (List.length tb) fun i => [AV.val (Value.bool (List.getD tb i false))]) = AV.view (1 : Nat) (List.length tb) fun i => [AV.val (Value.bool (List.getD tb i false))],
   AV.val (Value.int IntKind.i64 (↑i : Int)) = AV.val (Value.int IntKind.i64 (↑i : Int)),
   AV.val (Value.int IntKind.i64 (IntKind.wrap IntKind.i64 ((↑k : Int) + (1 : Int)))) = AV.val (Value.int IntKind.i64 (↑(k + (1 : Nat)) : Int)),
   AV.val (Value.int IntKind.i64 (IntKind.wrap IntKind.i64 ((↑q : Int) + (1 : Int)))) = AV.val (Value.int IntKind.i64 (↑(q + (1 : Nat)) : Int)),
   AV.sl (0 : Nat) (0 : Nat) (List.length x) none = AV.sl (0 : Nat) (0 : Nat) (List.length x) none,
   SameO (some { t := (5 : Nat), sz := (1 : Nat), exact := false, fz := true, body := Body.bytes x }) { t := (5 : Nat), sz := (1 : Nat), exact := false, fz := true, body := Body.bytes x }]) := by kernel_rfl

set_option maxRecDepth 100000 in
theorem ni_mid0 (ls : List (List UInt8)) (tb : List Bool) (i : Nat) (k : Nat) (q : Nat) (x : List UInt8) : stepXS kC [(16, { op := [(14, 9, .br true), (14, 14, .get), (14, 22, .br false), (14, 27, .get), (14, 33, .get), (14, 35, .br true), (14, 37, .br true)], gd := [(14, 5, true), (14, 6, true), (14, 7, true), (14, 8, true), (14, 11, true), (14, 12, true), (14, 13, true), (14, 14, true), (14, 15, true), (14, 16, true), (14, 17, false), (14, 18, false), (14, 19, false), (14, 20, false), (14, 21, false), (14, 22, true), (14, 23, true), (14, 30, true), (14, 31, true), (14, 32, true), (14, 33, true), (14, 34, true), (14, 36, true)], br := [(28, true), (68, false)], ob := [(14, 7), (14, 13), (14, 14), (14, 26), (14, 27), (14, 32), (14, 33)] })] Try.prog 16 12 (ncH0 ls tb i k q x) (ncH0 ls tb i (k + (1 : Nat)) (q + (1 : Nat)) x) [(0 : Nat)] 0 [] =
   some (.normal,
   [decide ((↑q : Int) < (↑(List.length x) : Int)) = true,
   decide ((↑k : Int) < (↑(List.length tb) : Int)) = true,
   decide ((↑k : Int) < (↑(List.length tb) : Int)) = true,
   decide ((↑k : Int) < (↑(List.length tb) : Int)) = true,
   (0 : Int) ≤ (↑k : Int) ∧ (↑k : Int) < (↑(List.length tb) : Int),
   decide ((↑k : Int) < (↑(List.length tb) : Int)) = true,
   decide ((↑k : Int) < (↑(List.length tb) : Int)) = true,
   List.getD tb k false = true,
   List.getD tb k false = true,
   List.getD tb k false = true,
   (0 : Int) ≤ (↑q : Int) ∧ (↑q : Int) < (↑(List.length x) : Int),
   List.getD tb k false = true,
   (0 : Nat) + q < List.length x,
   List.getD tb k false = true,
   List.getD tb k false = true,
   decide ((↑(UInt8.toNat (List.getD x ((0 : Nat) + q) (0 : UInt8))) : Int) ≥ (97 : Int)) = false,
   decide ((↑(UInt8.toNat (List.getD x ((0 : Nat) + q) (0 : UInt8))) : Int) ≥ (97 : Int)) = false,
   decide ((↑(UInt8.toNat (List.getD x ((0 : Nat) + q) (0 : UInt8))) : Int) ≥ (97 : Int)) = false,
   decide ((↑(UInt8.toNat (List.getD x ((0 : Nat) + q) (0 : UInt8))) : Int) ≥ (97 : Int)) = false,
   decide ((↑(UInt8.toNat (List.getD x ((0 : Nat) + q) (0 : UInt8))) : Int) ≥ (97 : Int)) = false,
   List.getD tb k false = true,
   decide ((↑(UInt8.toNat (List.getD x ((0 : Nat) + q) (0 : UInt8))) : Int) ≥ (97 : Int)) = false,
   List.getD tb k false = true,
   (0 : Int) ≤ (↑q : Int) ∧ (↑q : Int) < (↑(List.length x) : Int),
   (0 : Nat) + q < List.length x,
   decide ((↑(UInt8.toNat (List.getD x ((0 : Nat) + q) (0 : UInt8))) : Int) ≥ (65 : Int)) = true,
   decide ((↑(UInt8.toNat (List.getD x ((0 : Nat) + q) (0 : UInt8))) : Int) ≥ (65 : Int)) = true,
   decide ((↑(UInt8.toNat (List.getD x ((0 : Nat) + q) (0 : UInt8))) : Int) ≥ (65 : Int)) = true,
   (0 : Int) ≤ (↑q : Int) ∧ (↑q : Int) < (↑(List.length x) : Int),
   decide ((↑(UInt8.toNat (List.getD x ((0 : Nat) + q) (0 : UInt8))) : Int) ≥ (65 : Int)) = true,
   (0 : Nat) + q < List.length x,
   decide ((↑(UInt8.toNat (List.getD x ((0 : Nat) + q) (0 : UInt8))) : Int) ≥ (65 : Int)) = true,
   decide ((↑(UInt8.toNat (List.getD x ((0 : Nat) + q) (0 : UInt8))) : Int) ≥ (65 : Int)) = true,
   List.getD tb k false = true,
   List.getD tb k false = true,
   decide ((↑(UInt8.toNat (List.getD x ((0 : Nat) + q) (0 : UInt8))) : Int) ≤ (90 : Int)) = false,
   (AV.view (1 : Nat) (List.length ls) fun i => [AV.val (Value.string { data := List.toArray (List.getD ls i []) })]) = AV.view (1 : Nat) (List.length ls) fun i => [AV.val (Value.string { data := List.toArray (List.getD ls i []) })],
   (AV.view (1 : Nat) (List.length tb) fun i => [AV.val (Value.bool (List.getD tb i false))]) = AV.view (1 : Nat) (List.length tb) fun i => [AV.val (Value.bool (List.getD tb i false))],
   AV.val (Value.int IntKind.i64 (↑i : Int)) = AV.val (Value.int IntKind.i64 (↑i : Int)),
   AV.val (Value.int IntKind.i64 (IntKind.wrap IntKind.i64 ((↑k : Int) + (1 : Int)))) = AV.val (Value.int IntKind.i64 (↑(k + (1 : Nat)) : Int)),
   AV.val (Value.int IntKind.i64 (IntKind.wrap IntKind.i64 ((↑q : Int) + (1 : Int)))) = AV.val (Value.int IntKind.i64 (↑(q + (1 : Nat)) : Int)),
   AV.sl (0 : Nat) (0 : Nat) (List.length x) none = AV.sl (0 : Nat) (0 : Nat) (List.length x) none,
   SameO (some { t := (5 : Nat), sz := (1 : Nat), exact := false, fz := true, body := Body.bytes x }) { t := (5 : Nat), sz := (1 : Nat), exact := false, fz := true, body := Body.bytes x }]) := by kernel_rfl

set_option maxRecDepth 100000 in
theorem ni_hi0 (ls : List (List UInt8)) (tb : List Bool) (i : Nat) (k : Nat) (q : Nat) (x : List UInt8) : stepXS kC [(16, { op := [(14, 9, .br true), (14, 14, .get), (14, 20, .get), (14, 22, .br true), (14, 27, .get), (14, 33, .get), (14, 35, .br true), (14, 36, .br false), (14, 37, .br true)], gd := [(14, 5, true), (14, 6, true), (14, 7, true), (14, 8, true), (14, 11, true), (14, 12, true), (14, 13, true), (14, 14, true), (14, 15, true), (14, 16, true), (14, 17, true), (14, 18, true), (14, 19, true), (14, 20, true), (14, 21, true), (14, 22, true), (14, 23, true), (14, 24, false), (14, 25, false), (14, 26, false), (14, 27, false), (14, 28, false), (14, 29, false), (14, 30, true), (14, 31, true), (14, 32, true), (14, 33, true), (14, 34, true), (14, 35, false), (14, 36, true)], br := [(28, true), (68, false)], ob := [(14, 7), (14, 13), (14, 14), (14, 19), (14, 20), (14, 26), (14, 27), (14, 32), (14, 33)] })] Try.prog 16 12 (ncH0 ls tb i k q x) (ncH0 ls tb i (k + (1 : Nat)) (q + (1 : Nat)) x) [(0 : Nat)] 0 [] =
   some (.normal,
   [decide ((↑q : Int) < (↑(List.length x) : Int)) = true,
   decide ((↑k : Int) < (↑(List.length tb) : Int)) = true,
   decide ((↑k : Int) < (↑(List.length tb) : Int)) = true,
   decide ((↑k : Int) < (↑(List.length tb) : Int)) = true,
   (0 : Int) ≤ (↑k : Int) ∧ (↑k : Int) < (↑(List.length tb) : Int),
   decide ((↑k : Int) < (↑(List.length tb) : Int)) = true,
   decide ((↑k : Int) < (↑(List.length tb) : Int)) = true,
   List.getD tb k false = true,
   List.getD tb k false = true,
   List.getD tb k false = true,
   (0 : Int) ≤ (↑q : Int) ∧ (↑q : Int) < (↑(List.length x) : Int),
   List.getD tb k false = true,
   (0 : Nat) + q < List.length x,
   List.getD tb k false = true,
   List.getD tb k false = true,
   decide ((↑(UInt8.toNat (List.getD x ((0 : Nat) + q) (0 : UInt8))) : Int) ≥ (97 : Int)) = true,
   decide ((↑(UInt8.toNat (List.getD x ((0 : Nat) + q) (0 : UInt8))) : Int) ≥ (97 : Int)) = true,
   decide ((↑(UInt8.toNat (List.getD x ((0 : Nat) + q) (0 : UInt8))) : Int) ≥ (97 : Int)) = true,
   (0 : Int) ≤ (↑q : Int) ∧ (↑q : Int) < (↑(List.length x) : Int),
   decide ((↑(UInt8.toNat (List.getD x ((0 : Nat) + q) (0 : UInt8))) : Int) ≥ (97 : Int)) = true,
   (0 : Nat) + q < List.length x,
   decide ((↑(UInt8.toNat (List.getD x ((0 : Nat) + q) (0 : UInt8))) : Int) ≥ (97 : Int)) = true,
   List.getD tb k false = true,
   decide ((↑(UInt8.toNat (List.getD x ((0 : Nat) + q) (0 : UInt8))) : Int) ≥ (97 : Int)) = true,
   List.getD tb k false = true,
   decide ((↑(UInt8.toNat (List.getD x ((0 : Nat) + q) (0 : UInt8))) : Int) ≤ (122 : Int)) = false,
   decide ((↑(UInt8.toNat (List.getD x ((0 : Nat) + q) (0 : UInt8))) : Int) ≤ (122 : Int)) = false,
   decide ((↑(UInt8.toNat (List.getD x ((0 : Nat) + q) (0 : UInt8))) : Int) ≤ (122 : Int)) = false,
   (0 : Int) ≤ (↑q : Int) ∧ (↑q : Int) < (↑(List.length x) : Int),
   decide ((↑(UInt8.toNat (List.getD x ((0 : Nat) + q) (0 : UInt8))) : Int) ≤ (122 : Int)) = false,
   (0 : Nat) + q < List.length x,
   decide ((↑(UInt8.toNat (List.getD x ((0 : Nat) + q) (0 : UInt8))) : Int) ≤ (122 : Int)) = false,
   decide ((↑(UInt8.toNat (List.getD x ((0 : Nat) + q) (0 : UInt8))) : Int) ≤ (122 : Int)) = false,
   decide ((↑(UInt8.toNat (List.getD x ((0 : Nat) + q) (0 : UInt8))) : Int) ≥ (65 : Int)) = true,
   decide ((↑(UInt8.toNat (List.getD x ((0 : Nat) + q) (0 : UInt8))) : Int) ≥ (65 : Int)) = true,
   decide ((↑(UInt8.toNat (List.getD x ((0 : Nat) + q) (0 : UInt8))) : Int) ≥ (65 : Int)) = true,
   (0 : Int) ≤ (↑q : Int) ∧ (↑q : Int) < (↑(List.length x) : Int),
   decide ((↑(UInt8.toNat (List.getD x ((0 : Nat) + q) (0 : UInt8))) : Int) ≥ (65 : Int)) = true,
   (0 : Nat) + q < List.length x,
   decide ((↑(UInt8.toNat (List.getD x ((0 : Nat) + q) (0 : UInt8))) : Int) ≥ (65 : Int)) = true,
   decide ((↑(UInt8.toNat (List.getD x ((0 : Nat) + q) (0 : UInt8))) : Int) ≤ (122 : Int)) = false,
   decide ((↑(UInt8.toNat (List.getD x ((0 : Nat) + q) (0 : UInt8))) : Int) ≥ (65 : Int)) = true,
   List.getD tb k false = true,
   decide ((↑(UInt8.toNat (List.getD x ((0 : Nat) + q) (0 : UInt8))) : Int) ≤ (122 : Int)) = false,
   List.getD tb k false = true,
   decide ((↑(UInt8.toNat (List.getD x ((0 : Nat) + q) (0 : UInt8))) : Int) ≤ (90 : Int)) = false,
   (AV.view (1 : Nat) (List.length ls) fun i => [AV.val (Value.string { data := List.toArray (List.getD ls i []) })]) = AV.view (1 : Nat) (List.length ls) fun i => [AV.val (Value.string { data := List.toArray (List.getD ls i []) })],
   (AV.view (1 : Nat) (List.length tb) fun i => [AV.val (Value.bool (List.getD tb i false))]) = AV.view (1 : Nat) (List.length tb) fun i => [AV.val (Value.bool (List.getD tb i false))],
   AV.val (Value.int IntKind.i64 (↑i : Int)) = AV.val (Value.int IntKind.i64 (↑i : Int)),
   AV.val (Value.int IntKind.i64 (IntKind.wrap IntKind.i64 ((↑k : Int) + (1 : Int)))) = AV.val (Value.int IntKind.i64 (↑(k + (1 : Nat)) : Int)),
   AV.val (Value.int IntKind.i64 (IntKind.wrap IntKind.i64 ((↑q : Int) + (1 : Int)))) = AV.val (Value.int IntKind.i64 (↑(q + (1 : Nat)) : Int)),
   AV.sl (0 : Nat) (0 : Nat) (List.length x) none = AV.sl (0 : Nat) (0 : Nat) (List.length x) none,
   SameO (some { t := (5 : Nat), sz := (1 : Nat), exact := false, fz := true, body := Body.bytes x }) { t := (5 : Nat), sz := (1 : Nat), exact := false, fz := true, body := Body.bytes x }]) := by kernel_rfl

set_option maxRecDepth 100000 in
theorem ni_end0 (ls : List (List UInt8)) (tb : List Bool) (i : Nat) (k : Nat) (q : Nat) (x : List UInt8) : stepXS kC [(16, { br := [(28, false)] })] Try.prog 16 12 (ncH0 ls tb i k q x) (ncK0 ls tb i k x) [(0 : Nat)] 0 [] =
   some (.exit 2,
   [decide ((↑q : Int) < (↑(List.length x) : Int)) = false,
   (AV.view (1 : Nat) (List.length ls) fun i => [AV.val (Value.string { data := List.toArray (List.getD ls i []) })]) = AV.view (1 : Nat) (List.length ls) fun i => [AV.val (Value.string { data := List.toArray (List.getD ls i []) })],
   (AV.view (1 : Nat) (List.length tb) fun i => [AV.val (Value.bool (List.getD tb i false))]) = AV.view (1 : Nat) (List.length tb) fun i => [AV.val (Value.bool (List.getD tb i false))],
   AV.val (Value.int IntKind.i64 (↑i : Int)) = AV.val (Value.int IntKind.i64 (↑i : Int)),
   AV.val (Value.int IntKind.i64 (↑k : Int)) = AV.val (Value.int IntKind.i64 (↑k : Int)),
   AV.sl (0 : Nat) (0 : Nat) (List.length x) none = AV.sl (0 : Nat) (0 : Nat) (List.length x) none,
   SameO (some { t := (5 : Nat), sz := (1 : Nat), exact := false, fz := true, body := Body.bytes x }) { t := (5 : Nat), sz := (1 : Nat), exact := false, fz := true, body := Body.bytes x }]) := by kernel_rfl

set_option maxRecDepth 100000 in
theorem no_step0 (ls : List (List UInt8)) (tb : List Bool) (i : Nat) (k : Nat) (k2 : Nat) (y : List UInt8) : stepXS kC [(16, { br := [(17, true)], ob := [(10, 2), (10, 4), (17, 2)] })] Try.prog 16 8 (ncG0 ls tb i k) (ncG1r ls tb (i + (1 : Nat)) k2 [y]) [(5 : Nat)] 0 [(12, niL [(8 : Nat)] (ncH0 ls tb i k (0 : Nat) (List.getD ls i [])) (ncK0 ls tb i k2 y))] =
   some (.normal,
   [decide ((↑i : Int) < (↑(List.length ls) : Int)) = true,
   (0 : Int) ≤ (↑i : Int) ∧ (↑i : Int) < (↑(List.length ls) : Int),
   List.length (List.getD ls i []) ≤ (1000000000 : Nat),
   (AV.view (1 : Nat) (List.length ls) fun i => [AV.val (Value.string { data := List.toArray (List.getD ls i []) })]) = AV.view (1 : Nat) (List.length ls) fun i => [AV.val (Value.string { data := List.toArray (List.getD ls i []) })],
   (AV.view (1 : Nat) (List.length tb) fun i => [AV.val (Value.bool (List.getD tb i false))]) = AV.view (1 : Nat) (List.length tb) fun i => [AV.val (Value.bool (List.getD tb i false))],
   AV.val (Value.int IntKind.i64 (↑i : Int)) = AV.val (Value.int IntKind.i64 (↑i : Int)),
   AV.val (Value.int IntKind.i64 (↑k : Int)) = AV.val (Value.int IntKind.i64 (↑k : Int)),
   AV.val (Value.int IntKind.i64 (0 : Int)) = AV.val (Value.int IntKind.i64 (0 : Int)),
   AV.sl 8 (0 : Nat) (List.length (List.getD ls i [])) none = AV.sl (8 : Nat) (0 : Nat) (List.length (List.getD ls i [])) none,
   SameO (some { t := (5 : Nat), sz := (1 : Nat), exact := false, fz := true, body := Body.bytes (List.getD ls i []) }) { t := (5 : Nat), sz := (1 : Nat), exact := false, fz := true, body := Body.bytes (List.getD ls i []) },
   EvXL Try.prog 0 (loopAt Try.prog 16 12) (GoalX.st (LoopX.G (niL [(8 : Nat)] (ncH0 ls tb i k (0 : Nat) (List.getD ls i [])) (ncK0 ls tb i k2 y))) 0) (LoopX.ex (niL [(8 : Nat)] (ncH0 ls tb i k (0 : Nat) (List.getD ls i [])) (ncK0 ls tb i k2 y))) (GoalX.st (LoopX.E (niL [(8 : Nat)] (ncH0 ls tb i k (0 : Nat) (List.getD ls i [])) (ncK0 ls tb i k2 y))) 0),
   (0 : Nat) + List.length y ≤ List.length y,
   (AV.view (1 : Nat) (List.length ls) fun i => [AV.val (Value.string { data := List.toArray (List.getD ls i []) })]) = AV.view (1 : Nat) (List.length ls) fun i => [AV.val (Value.string { data := List.toArray (List.getD ls i []) })],
   (AV.view (1 : Nat) (List.length tb) fun i => [AV.val (Value.bool (List.getD tb i false))]) = AV.view (1 : Nat) (List.length tb) fun i => [AV.val (Value.bool (List.getD tb i false))],
   AV.val (Value.int IntKind.i64 (IntKind.wrap IntKind.i64 ((↑i : Int) + (1 : Int)))) = AV.val (Value.int IntKind.i64 (↑(i + (1 : Nat)) : Int)),
   AV.val (Value.int IntKind.i64 (↑k2 : Int)) = AV.val (Value.int IntKind.i64 (↑k2 : Int)),
   AV.sl 5 (0 : Nat) (1 : Nat) none = AV.sl (5 : Nat) (0 : Nat) (1 : Nat) none,
   SameO (some { t := (9 : Nat), sz := (1 : Nat), exact := false, fz := false, body := Body.rows [[AV.val (Value.string { data := List.toArray (List.take (List.length y) y) })]] }) { t := (9 : Nat), sz := (1 : Nat), exact := false, fz := false, body := Body.rows [[AV.val (Value.string { data := List.toArray y })]] }]) := by kernel_rfl

set_option maxRecDepth 100000 in
theorem no_end0 (ls : List (List UInt8)) (tb : List Bool) (i : Nat) (k : Nat) : stepXS kC [(16, { br := [(17, false)] })] Try.prog 16 8 (ncG0 ls tb i k) (ncE0 ls) [] 0 [] =
   some (.exit 0,
   [decide ((↑i : Int) < (↑(List.length ls) : Int)) = false,
   (AV.view (1 : Nat) (List.length ls) fun i => [AV.val (Value.string { data := List.toArray (List.getD ls i []) })]) = AV.view (1 : Nat) (List.length ls) fun i => [AV.val (Value.string { data := List.toArray (List.getD ls i []) })]]) := by kernel_rfl

set_option maxRecDepth 100000 in
theorem ni_far1 (ls : List (List UInt8)) (tb : List Bool) (i : Nat) (k : Nat) (q : Nat) (x : List UInt8) (m : List (List UInt8)) : stepXS kC [(16, { op := [(14, 9, .br false)], gd := [(14, 5, false), (14, 6, false), (14, 7, false), (14, 8, false)], br := [(28, true)] })] Try.prog 16 12 (ncH1 ls tb i k q x m) (ncH1 ls tb i (k + (1 : Nat)) (q + (1 : Nat)) x m) [(0 : Nat), (1 : Nat)] 0 [] =
   some (.normal,
   [decide ((↑q : Int) < (↑(List.length x) : Int)) = true,
   decide ((↑k : Int) < (↑(List.length tb) : Int)) = false,
   decide ((↑k : Int) < (↑(List.length tb) : Int)) = false,
   decide ((↑k : Int) < (↑(List.length tb) : Int)) = false,
   decide ((↑k : Int) < (↑(List.length tb) : Int)) = false,
   decide ((↑k : Int) < (↑(List.length tb) : Int)) = false,
   (AV.view (1 : Nat) (List.length ls) fun i => [AV.val (Value.string { data := List.toArray (List.getD ls i []) })]) = AV.view (1 : Nat) (List.length ls) fun i => [AV.val (Value.string { data := List.toArray (List.getD ls i []) })],
   (AV.view (1 : Nat) (List.length tb) fun i => [AV.val (Value.bool (List.getD tb i false))]) = AV.view (1 : Nat) (List.length tb) fun i => [AV.val (Value.bool (List.getD tb i false))],
   AV.val (Value.int IntKind.i64 (↑i : Int)) = AV.val (Value.int IntKind.i64 (↑i : Int)),
   AV.val (Value.int IntKind.i64 (IntKind.wrap IntKind.i64 ((↑k : Int) + (1 : Int)))) = AV.val (Value.int IntKind.i64 (↑(k + (1 : Nat)) : Int)),
   AV.val (Value.int IntKind.i64 (IntKind.wrap IntKind.i64 ((↑q : Int) + (1 : Int)))) = AV.val (Value.int IntKind.i64 (↑(q + (1 : Nat)) : Int)),
   AV.sl (0 : Nat) (0 : Nat) (List.length m) none = AV.sl (0 : Nat) (0 : Nat) (List.length m) none,
   AV.sl (1 : Nat) (0 : Nat) (List.length x) none = AV.sl (1 : Nat) (0 : Nat) (List.length x) none,
   SameO (some { t := (9 : Nat), sz := (1 : Nat), exact := false, fz := false, body := Body.flat (rowsL m) }) { t := (9 : Nat), sz := (1 : Nat), exact := false, fz := false, body := Body.flat (List.map (fun x => (AV.brecOn_1.go x (AV.ren._f (renX 0 [(0 : Nat), (1 : Nat)] 50)) (renL._f (renX 0 [(0 : Nat), (1 : Nat)] 50))).1) (rowsL m)) },
   SameO (some { t := (5 : Nat), sz := (1 : Nat), exact := false, fz := true, body := Body.bytes x }) { t := (5 : Nat), sz := (1 : Nat), exact := false, fz := true, body := Body.bytes x }]) := by kernel_rfl

set_option maxRecDepth 100000 in
theorem ni_no1 (ls : List (List UInt8)) (tb : List Bool) (i : Nat) (k : Nat) (q : Nat) (x : List UInt8) (m : List (List UInt8)) : stepXS kC [(16, { op := [(14, 9, .br true), (14, 37, .br false)], gd := [(14, 5, true), (14, 6, true), (14, 7, true), (14, 8, true), (14, 11, false), (14, 12, false), (14, 13, false), (14, 14, false), (14, 15, false), (14, 16, false), (14, 22, false), (14, 23, false), (14, 36, false)], br := [(28, true)], ob := [(14, 7)] })] Try.prog 16 12 (ncH1 ls tb i k q x m) (ncH1 ls tb i (k + (1 : Nat)) (q + (1 : Nat)) x m) [(0 : Nat), (1 : Nat)] 0 [] =
   some (.normal,
   [decide ((↑q : Int) < (↑(List.length x) : Int)) = true,
   decide ((↑k : Int) < (↑(List.length tb) : Int)) = true,
   decide ((↑k : Int) < (↑(List.length tb) : Int)) = true,
   decide ((↑k : Int) < (↑(List.length tb) : Int)) = true,
   (0 : Int) ≤ (↑k : Int) ∧ (↑k : Int) < (↑(List.length tb) : Int),
   decide ((↑k : Int) < (↑(List.length tb) : Int)) = true,
   decide ((↑k : Int) < (↑(List.length tb) : Int)) = true,
   List.getD tb k false = false,
   List.getD tb k false = false,
   List.getD tb k false = false,
   List.getD tb k false = false,
   List.getD tb k false = false,
   List.getD tb k false = false,
   List.getD tb k false = false,
   List.getD tb k false = false,
   List.getD tb k false = false,
   List.getD tb k false = false,
   (AV.view (1 : Nat) (List.length ls) fun i => [AV.val (Value.string { data := List.toArray (List.getD ls i []) })]) = AV.view (1 : Nat) (List.length ls) fun i => [AV.val (Value.string { data := List.toArray (List.getD ls i []) })],
   (AV.view (1 : Nat) (List.length tb) fun i => [AV.val (Value.bool (List.getD tb i false))]) = AV.view (1 : Nat) (List.length tb) fun i => [AV.val (Value.bool (List.getD tb i false))],
   AV.val (Value.int IntKind.i64 (↑i : Int)) = AV.val (Value.int IntKind.i64 (↑i : Int)),
   AV.val (Value.int IntKind.i64 (IntKind.wrap IntKind.i64 ((↑k : Int) + (1 : Int)))) = AV.val (Value.int IntKind.i64 (↑(k + (1 : Nat)) : Int)),
   AV.val (Value.int IntKind.i64 (IntKind.wrap IntKind.i64 ((↑q : Int) + (1 : Int)))) = AV.val (Value.int IntKind.i64 (↑(q + (1 : Nat)) : Int)),
   AV.sl (0 : Nat) (0 : Nat) (List.length m) none = AV.sl (0 : Nat) (0 : Nat) (List.length m) none,
   AV.sl (1 : Nat) (0 : Nat) (List.length x) none = AV.sl (1 : Nat) (0 : Nat) (List.length x) none,
   SameO (some { t := (9 : Nat), sz := (1 : Nat), exact := false, fz := false, body := Body.flat (rowsL m) }) { t := (9 : Nat), sz := (1 : Nat), exact := false, fz := false, body := Body.flat (List.map (fun x => (AV.brecOn_1.go x (AV.ren._f (renX 0 [(0 : Nat), (1 : Nat)] 50)) (renL._f (renX 0 [(0 : Nat), (1 : Nat)] 50))).1) (rowsL m)) },
   SameO (some { t := (5 : Nat), sz := (1 : Nat), exact := false, fz := true, body := Body.bytes x }) { t := (5 : Nat), sz := (1 : Nat), exact := false, fz := true, body := Body.bytes x }]) := by kernel_rfl

set_option maxRecDepth 100000 in
theorem ni_sm1 (ls : List (List UInt8)) (tb : List Bool) (i : Nat) (k : Nat) (q : Nat) (x : List UInt8) (m : List (List UInt8)) : stepXS kC [(16, { op := [(14, 9, .br true), (14, 14, .get), (14, 20, .get), (14, 22, .br true), (14, 36, .br true), (14, 37, .br true), (15, 5, .get)], gd := [(14, 5, true), (14, 6, true), (14, 7, true), (14, 8, true), (14, 11, true), (14, 12, true), (14, 13, true), (14, 14, true), (14, 15, true), (14, 16, true), (14, 17, true), (14, 18, true), (14, 19, true), (14, 20, true), (14, 21, true), (14, 22, true), (14, 23, true), (14, 24, true), (14, 25, true), (14, 26, true), (14, 27, true), (14, 28, true), (14, 29, true), (14, 35, true), (14, 36, true)], br := [(28, true)], ob := [(14, 7), (14, 13), (14, 14), (14, 19), (14, 20), (15, 4), (15, 5), (15, 7), (15, 8)] })] Try.prog 16 12 (ncH1 ls tb i k q x m) (ncH1 ls tb i (k + (1 : Nat)) (q + (1 : Nat)) (List.set x q (List.getD x q (0 : UInt8) ^^^ (32 : UInt8))) m) [(0 : Nat), (1 : Nat)] 0 [] =
   some (.normal,
   [decide ((↑q : Int) < (↑(List.length x) : Int)) = true,
   decide ((↑k : Int) < (↑(List.length tb) : Int)) = true,
   decide ((↑k : Int) < (↑(List.length tb) : Int)) = true,
   decide ((↑k : Int) < (↑(List.length tb) : Int)) = true,
   (0 : Int) ≤ (↑k : Int) ∧ (↑k : Int) < (↑(List.length tb) : Int),
   decide ((↑k : Int) < (↑(List.length tb) : Int)) = true,
   decide ((↑k : Int) < (↑(List.length tb) : Int)) = true,
   List.getD tb k false = true,
   List.getD tb k false = true,
   List.getD tb k false = true,
   (0 : Int) ≤ (↑q : Int) ∧ (↑q : Int) < (↑(List.length x) : Int),
   List.getD tb k false = true,
   (0 : Nat) + q < List.length x,
   List.getD tb k false = true,
   List.getD tb k false = true,
   decide ((↑(UInt8.toNat (List.getD x ((0 : Nat) + q) (0 : UInt8))) : Int) ≥ (97 : Int)) = true,
   decide ((↑(UInt8.toNat (List.getD x ((0 : Nat) + q) (0 : UInt8))) : Int) ≥ (97 : Int)) = true,
   decide ((↑(UInt8.toNat (List.getD x ((0 : Nat) + q) (0 : UInt8))) : Int) ≥ (97 : Int)) = true,
   (0 : Int) ≤ (↑q : Int) ∧ (↑q : Int) < (↑(List.length x) : Int),
   decide ((↑(UInt8.toNat (List.getD x ((0 : Nat) + q) (0 : UInt8))) : Int) ≥ (97 : Int)) = true,
   (0 : Nat) + q < List.length x,
   decide ((↑(UInt8.toNat (List.getD x ((0 : Nat) + q) (0 : UInt8))) : Int) ≥ (97 : Int)) = true,
   List.getD tb k false = true,
   decide ((↑(UInt8.toNat (List.getD x ((0 : Nat) + q) (0 : UInt8))) : Int) ≥ (97 : Int)) = true,
   List.getD tb k false = true,
   decide ((↑(UInt8.toNat (List.getD x ((0 : Nat) + q) (0 : UInt8))) : Int) ≤ (122 : Int)) = true,
   decide ((↑(UInt8.toNat (List.getD x ((0 : Nat) + q) (0 : UInt8))) : Int) ≤ (122 : Int)) = true,
   decide ((↑(UInt8.toNat (List.getD x ((0 : Nat) + q) (0 : UInt8))) : Int) ≤ (122 : Int)) = true,
   decide ((↑(UInt8.toNat (List.getD x ((0 : Nat) + q) (0 : UInt8))) : Int) ≤ (122 : Int)) = true,
   decide ((↑(UInt8.toNat (List.getD x ((0 : Nat) + q) (0 : UInt8))) : Int) ≤ (122 : Int)) = true,
   decide ((↑(UInt8.toNat (List.getD x ((0 : Nat) + q) (0 : UInt8))) : Int) ≤ (122 : Int)) = true,
   decide ((↑(UInt8.toNat (List.getD x ((0 : Nat) + q) (0 : UInt8))) : Int) ≤ (122 : Int)) = true,
   List.getD tb k false = true,
   decide ((↑(UInt8.toNat (List.getD x ((0 : Nat) + q) (0 : UInt8))) : Int) ≤ (122 : Int)) = true,
   List.getD tb k false = true,
   (0 : Int) ≤ (↑q : Int) ∧ (↑q : Int) < (↑(List.length x) : Int),
   (0 : Nat) + q < List.length x,
   (0 : Int) ≤ (↑q : Int) ∧ (↑q : Int) < (↑(List.length x) : Int),
   (0 : Nat) + q < List.length x,
   isByteAV (AV.val (Value.int IntKind.u8 (bits BinOp.xor IntKind.u8 (↑(UInt8.toNat (List.getD x ((0 : Nat) + q) (0 : UInt8))) : Int) (32 : Int)))),
   (AV.view (1 : Nat) (List.length ls) fun i => [AV.val (Value.string { data := List.toArray (List.getD ls i []) })]) = AV.view (1 : Nat) (List.length ls) fun i => [AV.val (Value.string { data := List.toArray (List.getD ls i []) })],
   (AV.view (1 : Nat) (List.length tb) fun i => [AV.val (Value.bool (List.getD tb i false))]) = AV.view (1 : Nat) (List.length tb) fun i => [AV.val (Value.bool (List.getD tb i false))],
   AV.val (Value.int IntKind.i64 (↑i : Int)) = AV.val (Value.int IntKind.i64 (↑i : Int)),
   AV.val (Value.int IntKind.i64 (IntKind.wrap IntKind.i64 ((↑k : Int) + (1 : Int)))) = AV.val (Value.int IntKind.i64 (↑(k + (1 : Nat)) : Int)),
   AV.val (Value.int IntKind.i64 (IntKind.wrap IntKind.i64 ((↑q : Int) + (1 : Int)))) = AV.val (Value.int IntKind.i64 (↑(q + (1 : Nat)) : Int)),
   AV.sl (0 : Nat) (0 : Nat) (List.length m) none = AV.sl (0 : Nat) (0 : Nat) (List.length m) none,
   AV.sl (1 : Nat) (0 : Nat) (List.length x) none = AV.sl (1 : Nat) (0 : Nat) (List.length (List.set x q (List.getD x q (0 : UInt8) ^^^ (32 : UInt8)))) none,
   SameO (some { t := (9 : Nat), sz := (1 : Nat), exact := false, fz := false, body := Body.flat (rowsL m) }) { t := (9 : Nat), sz := (1 : Nat), exact := false, fz := false, body := Body.flat (List.map (fun x => (AV.brecOn_1.go x (AV.ren._f (renX 0 [(0 : Nat), (1 : Nat)] 59)) (renL._f (renX 0 [(0 : Nat), (1 : Nat)] 59))).1) (rowsL m)) },
   SameO (some { t := (5 : Nat), sz := (1 : Nat), exact := false, fz := true, body := Body.bytes (List.set x ((0 : Nat) + q) (UInt8.ofNat (Int.toNat (bits BinOp.xor IntKind.u8 (↑(UInt8.toNat (List.getD x ((0 : Nat) + q) (0 : UInt8))) : Int) (32 : Int))))) }) { t := (5 : Nat), sz := (1 : Nat), exact := false, fz := true, body := Body.bytes (List.set x q (List.getD x q (0 : UInt8) ^^^ (32 : UInt8))) }]) := by kernel_rfl

set_option maxRecDepth 100000 in
theorem ni_gr1 (ls : List (List UInt8)) (tb : List Bool) (i : Nat) (k : Nat) (q : Nat) (x : List UInt8) (m : List (List UInt8)) : stepXS kC [(16, { op := [(14, 9, .br true), (14, 14, .get), (14, 22, .br false), (14, 27, .get), (14, 33, .get), (14, 35, .br true), (14, 37, .br true), (15, 5, .get)], gd := [(14, 5, true), (14, 6, true), (14, 7, true), (14, 8, true), (14, 11, true), (14, 12, true), (14, 13, true), (14, 14, true), (14, 15, true), (14, 16, true), (14, 17, false), (14, 18, false), (14, 19, false), (14, 20, false), (14, 21, false), (14, 22, true), (14, 23, true), (14, 30, true), (14, 31, true), (14, 32, true), (14, 33, true), (14, 34, true), (14, 36, true)], br := [(28, true), (68, true)], ob := [(14, 7), (14, 13), (14, 14), (14, 26), (14, 27), (14, 32), (14, 33), (15, 4), (15, 5), (15, 7), (15, 8)] })] Try.prog 16 12 (ncH1 ls tb i k q x m) (ncH1 ls tb i (k + (1 : Nat)) (q + (1 : Nat)) (List.set x q (List.getD x q (0 : UInt8) ^^^ (32 : UInt8))) m) [(0 : Nat), (1 : Nat)] 0 [] =
   some (.normal,
   [decide ((↑q : Int) < (↑(List.length x) : Int)) = true,
   decide ((↑k : Int) < (↑(List.length tb) : Int)) = true,
   decide ((↑k : Int) < (↑(List.length tb) : Int)) = true,
   decide ((↑k : Int) < (↑(List.length tb) : Int)) = true,
   (0 : Int) ≤ (↑k : Int) ∧ (↑k : Int) < (↑(List.length tb) : Int),
   decide ((↑k : Int) < (↑(List.length tb) : Int)) = true,
   decide ((↑k : Int) < (↑(List.length tb) : Int)) = true,
   List.getD tb k false = true,
   List.getD tb k false = true,
   List.getD tb k false = true,
   (0 : Int) ≤ (↑q : Int) ∧ (↑q : Int) < (↑(List.length x) : Int),
   List.getD tb k false = true,
   (0 : Nat) + q < List.length x,
   List.getD tb k false = true,
   List.getD tb k false = true,
   decide ((↑(UInt8.toNat (List.getD x ((0 : Nat) + q) (0 : UInt8))) : Int) ≥ (97 : Int)) = false,
   decide ((↑(UInt8.toNat (List.getD x ((0 : Nat) + q) (0 : UInt8))) : Int) ≥ (97 : Int)) = false,
   decide ((↑(UInt8.toNat (List.getD x ((0 : Nat) + q) (0 : UInt8))) : Int) ≥ (97 : Int)) = false,
   decide ((↑(UInt8.toNat (List.getD x ((0 : Nat) + q) (0 : UInt8))) : Int) ≥ (97 : Int)) = false,
   decide ((↑(UInt8.toNat (List.getD x ((0 : Nat) + q) (0 : UInt8))) : Int) ≥ (97 : Int)) = false,
   List.getD tb k false = true,
   decide ((↑(UInt8.toNat (List.getD x ((0 : Nat) + q) (0 : UInt8))) : Int) ≥ (97 : Int)) = false,
   List.getD tb k false = true,
   (0 : Int) ≤ (↑q : Int) ∧ (↑q : Int) < (↑(List.length x) : Int),
   (0 : Nat) + q < List.length x,
   decide ((↑(UInt8.toNat (List.getD x ((0 : Nat) + q) (0 : UInt8))) : Int) ≥ (65 : Int)) = true,
   decide ((↑(UInt8.toNat (List.getD x ((0 : Nat) + q) (0 : UInt8))) : Int) ≥ (65 : Int)) = true,
   decide ((↑(UInt8.toNat (List.getD x ((0 : Nat) + q) (0 : UInt8))) : Int) ≥ (65 : Int)) = true,
   (0 : Int) ≤ (↑q : Int) ∧ (↑q : Int) < (↑(List.length x) : Int),
   decide ((↑(UInt8.toNat (List.getD x ((0 : Nat) + q) (0 : UInt8))) : Int) ≥ (65 : Int)) = true,
   (0 : Nat) + q < List.length x,
   decide ((↑(UInt8.toNat (List.getD x ((0 : Nat) + q) (0 : UInt8))) : Int) ≥ (65 : Int)) = true,
   decide ((↑(UInt8.toNat (List.getD x ((0 : Nat) + q) (0 : UInt8))) : Int) ≥ (65 : Int)) = true,
   List.getD tb k false = true,
   List.getD tb k false = true,
   decide ((↑(UInt8.toNat (List.getD x ((0 : Nat) + q) (0 : UInt8))) : Int) ≤ (90 : Int)) = true,
   (0 : Int) ≤ (↑q : Int) ∧ (↑q : Int) < (↑(List.length x) : Int),
   (0 : Nat) + q < List.length x,
   (0 : Int) ≤ (↑q : Int) ∧ (↑q : Int) < (↑(List.length x) : Int),
   (0 : Nat) + q < List.length x,
   isByteAV (AV.val (Value.int IntKind.u8 (bits BinOp.xor IntKind.u8 (↑(UInt8.toNat (List.getD x ((0 : Nat) + q) (0 : UInt8))) : Int) (32 : Int)))),
   (AV.view (1 : Nat) (List.length ls) fun i => [AV.val (Value.string { data := List.toArray (List.getD ls i []) })]) = AV.view (1 : Nat) (List.length ls) fun i => [AV.val (Value.string { data := List.toArray (List.getD ls i []) })],
   (AV.view (1 : Nat) (List.length tb) fun i => [AV.val (Value.bool (List.getD tb i false))]) = AV.view (1 : Nat) (List.length tb) fun i => [AV.val (Value.bool (List.getD tb i false))],
   AV.val (Value.int IntKind.i64 (↑i : Int)) = AV.val (Value.int IntKind.i64 (↑i : Int)),
   AV.val (Value.int IntKind.i64 (IntKind.wrap IntKind.i64 ((↑k : Int) + (1 : Int)))) = AV.val (Value.int IntKind.i64 (↑(k + (1 : Nat)) : Int)),
   AV.val (Value.int IntKind.i64 (IntKind.wrap IntKind.i64 ((↑q : Int) + (1 : Int)))) = AV.val (Value.int IntKind.i64 (↑(q + (1 : Nat)) : Int)),
   AV.sl (0 : Nat) (0 : Nat) (List.length m) none = AV.sl (0 : Nat) (0 : Nat) (List.length m) none,
   AV.sl (1 : Nat) (0 : Nat) (List.length x) none = AV.sl (1 : Nat) (0 : Nat) (List.length (List.set x q (List.getD x q (0 : UInt8) ^^^ (32 : UInt8)))) none,
   SameO (some { t := (9 : Nat), sz := (1 : Nat), exact := false, fz := false, body := Body.flat (rowsL m) }) { t := (9 : Nat), sz := (1 : Nat), exact := false, fz := false, body := Body.flat (List.map (fun x => (AV.brecOn_1.go x (AV.ren._f (renX 0 [(0 : Nat), (1 : Nat)] 59)) (renL._f (renX 0 [(0 : Nat), (1 : Nat)] 59))).1) (rowsL m)) },
   SameO (some { t := (5 : Nat), sz := (1 : Nat), exact := false, fz := true, body := Body.bytes (List.set x ((0 : Nat) + q) (UInt8.ofNat (Int.toNat (bits BinOp.xor IntKind.u8 (↑(UInt8.toNat (List.getD x ((0 : Nat) + q) (0 : UInt8))) : Int) (32 : Int))))) }) { t := (5 : Nat), sz := (1 : Nat), exact := false, fz := true, body := Body.bytes (List.set x q (List.getD x q (0 : UInt8) ^^^ (32 : UInt8))) }]) := by kernel_rfl

set_option maxRecDepth 100000 in
theorem ni_lo1 (ls : List (List UInt8)) (tb : List Bool) (i : Nat) (k : Nat) (q : Nat) (x : List UInt8) (m : List (List UInt8)) : stepXS kC [(16, { op := [(14, 9, .br true), (14, 14, .get), (14, 22, .br false), (14, 27, .get), (14, 35, .br false), (14, 37, .br true)], gd := [(14, 5, true), (14, 6, true), (14, 7, true), (14, 8, true), (14, 11, true), (14, 12, true), (14, 13, true), (14, 14, true), (14, 15, true), (14, 16, true), (14, 17, false), (14, 18, false), (14, 19, false), (14, 20, false), (14, 21, false), (14, 22, true), (14, 23, true), (14, 30, false), (14, 31, false), (14, 32, false), (14, 33, false), (14, 34, false), (14, 36, true)], br := [(28, true)], ob := [(14, 7), (14, 13), (14, 14), (14, 26), (14, 27)] })] Try.prog 16 12 (ncH1 ls tb i k q x m) (ncH1 ls tb i (k + (1 : Nat)) (q + (1 : Nat)) x m) [(0 : Nat), (1 : Nat)] 0 [] =
   some (.normal,
   [decide ((↑q : Int) < (↑(List.length x) : Int)) = true,
   decide ((↑k : Int) < (↑(List.length tb) : Int)) = true,
   decide ((↑k : Int) < (↑(List.length tb) : Int)) = true,
   decide ((↑k : Int) < (↑(List.length tb) : Int)) = true,
   (0 : Int) ≤ (↑k : Int) ∧ (↑k : Int) < (↑(List.length tb) : Int),
   decide ((↑k : Int) < (↑(List.length tb) : Int)) = true,
   decide ((↑k : Int) < (↑(List.length tb) : Int)) = true,
   List.getD tb k false = true,
   List.getD tb k false = true,
   List.getD tb k false = true,
   (0 : Int) ≤ (↑q : Int) ∧ (↑q : Int) < (↑(List.length x) : Int),
   List.getD tb k false = true,
   (0 : Nat) + q < List.length x,
   List.getD tb k false = true,
   List.getD tb k false = true,
   decide ((↑(UInt8.toNat (List.getD x ((0 : Nat) + q) (0 : UInt8))) : Int) ≥ (97 : Int)) = false,
   decide ((↑(UInt8.toNat (List.getD x ((0 : Nat) + q) (0 : UInt8))) : Int) ≥ (97 : Int)) = false,
   decide ((↑(UInt8.toNat (List.getD x ((0 : Nat) + q) (0 : UInt8))) : Int) ≥ (97 : Int)) = false,
   decide ((↑(UInt8.toNat (List.getD x ((0 : Nat) + q) (0 : UInt8))) : Int) ≥ (97 : Int)) = false,
   decide ((↑(UInt8.toNat (List.getD x ((0 : Nat) + q) (0 : UInt8))) : Int) ≥ (97 : Int)) = false,
   List.getD tb k false = true,
   decide ((↑(UInt8.toNat (List.getD x ((0 : Nat) + q) (0 : UInt8))) : Int) ≥ (97 : Int)) = false,
   List.getD tb k false = true,
   (0 : Int) ≤ (↑q : Int) ∧ (↑q : Int) < (↑(List.length x) : Int),
   (0 : Nat) + q < List.length x,
   decide ((↑(UInt8.toNat (List.getD x ((0 : Nat) + q) (0 : UInt8))) : Int) ≥ (65 : Int)) = false,
   decide ((↑(UInt8.toNat (List.getD x ((0 : Nat) + q) (0 : UInt8))) : Int) ≥ (65 : Int)) = false,
   decide ((↑(UInt8.toNat (List.getD x ((0 : Nat) + q) (0 : UInt8))) : Int) ≥ (65 : Int)) = false,
   decide ((↑(UInt8.toNat (List.getD x ((0 : Nat) + q) (0 : UInt8))) : Int) ≥ (65 : Int)) = false,
   decide ((↑(UInt8.toNat (List.getD x ((0 : Nat) + q) (0 : UInt8))) : Int) ≥ (65 : Int)) = false,
   decide ((↑(UInt8.toNat (List.getD x ((0 : Nat) + q) (0 : UInt8))) : Int) ≥ (65 : Int)) = false,
   List.getD tb k false = true,
   List.getD tb k false = true,
   (AV.view (1 : Nat) (List.length ls) fun i => [AV.val (Value.string { data := List.toArray (List.getD ls i []) })]) = AV.view (1 : Nat) (List.length ls) fun i => [AV.val (Value.string { data := List.toArray (List.getD ls i []) })],
   (AV.view (1 : Nat) (List.length tb) fun i => [AV.val (Value.bool (List.getD tb i false))]) = AV.view (1 : Nat) (List.length tb) fun i => [AV.val (Value.bool (List.getD tb i false))],
   AV.val (Value.int IntKind.i64 (↑i : Int)) = AV.val (Value.int IntKind.i64 (↑i : Int)),
   AV.val (Value.int IntKind.i64 (IntKind.wrap IntKind.i64 ((↑k : Int) + (1 : Int)))) = AV.val (Value.int IntKind.i64 (↑(k + (1 : Nat)) : Int)),
   AV.val (Value.int IntKind.i64 (IntKind.wrap IntKind.i64 ((↑q : Int) + (1 : Int)))) = AV.val (Value.int IntKind.i64 (↑(q + (1 : Nat)) : Int)),
   AV.sl (0 : Nat) (0 : Nat) (List.length m) none = AV.sl (0 : Nat) (0 : Nat) (List.length m) none,
   AV.sl (1 : Nat) (0 : Nat) (List.length x) none = AV.sl (1 : Nat) (0 : Nat) (List.length x) none,
   SameO (some { t := (9 : Nat), sz := (1 : Nat), exact := false, fz := false, body := Body.flat (rowsL m) }) { t := (9 : Nat), sz := (1 : Nat), exact := false, fz := false, body := Body.flat (List.map (fun x => (AV.brecOn_1.go x (AV.ren._f (renX 0 [(0 : Nat), (1 : Nat)] 50)) (renL._f (renX 0 [(0 : Nat), (1 : Nat)] 50))).1) (rowsL m)) },
   SameO (some { t := (5 : Nat), sz := (1 : Nat), exact := false, fz := true, body := Body.bytes x }) { t := (5 : Nat), sz := (1 : Nat), exact := false, fz := true, body := Body.bytes x }]) := by kernel_rfl

set_option maxRecDepth 100000 in
theorem ni_mid1 (ls : List (List UInt8)) (tb : List Bool) (i : Nat) (k : Nat) (q : Nat) (x : List UInt8) (m : List (List UInt8)) : stepXS kC [(16, { op := [(14, 9, .br true), (14, 14, .get), (14, 22, .br false), (14, 27, .get), (14, 33, .get), (14, 35, .br true), (14, 37, .br true)], gd := [(14, 5, true), (14, 6, true), (14, 7, true), (14, 8, true), (14, 11, true), (14, 12, true), (14, 13, true), (14, 14, true), (14, 15, true), (14, 16, true), (14, 17, false), (14, 18, false), (14, 19, false), (14, 20, false), (14, 21, false), (14, 22, true), (14, 23, true), (14, 30, true), (14, 31, true), (14, 32, true), (14, 33, true), (14, 34, true), (14, 36, true)], br := [(28, true), (68, false)], ob := [(14, 7), (14, 13), (14, 14), (14, 26), (14, 27), (14, 32), (14, 33)] })] Try.prog 16 12 (ncH1 ls tb i k q x m) (ncH1 ls tb i (k + (1 : Nat)) (q + (1 : Nat)) x m) [(0 : Nat), (1 : Nat)] 0 [] =
   some (.normal,
   [decide ((↑q : Int) < (↑(List.length x) : Int)) = true,
   decide ((↑k : Int) < (↑(List.length tb) : Int)) = true,
   decide ((↑k : Int) < (↑(List.length tb) : Int)) = true,
   decide ((↑k : Int) < (↑(List.length tb) : Int)) = true,
   (0 : Int) ≤ (↑k : Int) ∧ (↑k : Int) < (↑(List.length tb) : Int),
   decide ((↑k : Int) < (↑(List.length tb) : Int)) = true,
   decide ((↑k : Int) < (↑(List.length tb) : Int)) = true,
   List.getD tb k false = true,
   List.getD tb k false = true,
   List.getD tb k false = true,
   (0 : Int) ≤ (↑q : Int) ∧ (↑q : Int) < (↑(List.length x) : Int),
   List.getD tb k false = true,
   (0 : Nat) + q < List.length x,
   List.getD tb k false = true,
   List.getD tb k false = true,
   decide ((↑(UInt8.toNat (List.getD x ((0 : Nat) + q) (0 : UInt8))) : Int) ≥ (97 : Int)) = false,
   decide ((↑(UInt8.toNat (List.getD x ((0 : Nat) + q) (0 : UInt8))) : Int) ≥ (97 : Int)) = false,
   decide ((↑(UInt8.toNat (List.getD x ((0 : Nat) + q) (0 : UInt8))) : Int) ≥ (97 : Int)) = false,
   decide ((↑(UInt8.toNat (List.getD x ((0 : Nat) + q) (0 : UInt8))) : Int) ≥ (97 : Int)) = false,
   decide ((↑(UInt8.toNat (List.getD x ((0 : Nat) + q) (0 : UInt8))) : Int) ≥ (97 : Int)) = false,
   List.getD tb k false = true,
   decide ((↑(UInt8.toNat (List.getD x ((0 : Nat) + q) (0 : UInt8))) : Int) ≥ (97 : Int)) = false,
   List.getD tb k false = true,
   (0 : Int) ≤ (↑q : Int) ∧ (↑q : Int) < (↑(List.length x) : Int),
   (0 : Nat) + q < List.length x,
   decide ((↑(UInt8.toNat (List.getD x ((0 : Nat) + q) (0 : UInt8))) : Int) ≥ (65 : Int)) = true,
   decide ((↑(UInt8.toNat (List.getD x ((0 : Nat) + q) (0 : UInt8))) : Int) ≥ (65 : Int)) = true,
   decide ((↑(UInt8.toNat (List.getD x ((0 : Nat) + q) (0 : UInt8))) : Int) ≥ (65 : Int)) = true,
   (0 : Int) ≤ (↑q : Int) ∧ (↑q : Int) < (↑(List.length x) : Int),
   decide ((↑(UInt8.toNat (List.getD x ((0 : Nat) + q) (0 : UInt8))) : Int) ≥ (65 : Int)) = true,
   (0 : Nat) + q < List.length x,
   decide ((↑(UInt8.toNat (List.getD x ((0 : Nat) + q) (0 : UInt8))) : Int) ≥ (65 : Int)) = true,
   decide ((↑(UInt8.toNat (List.getD x ((0 : Nat) + q) (0 : UInt8))) : Int) ≥ (65 : Int)) = true,
   List.getD tb k false = true,
   List.getD tb k false = true,
   decide ((↑(UInt8.toNat (List.getD x ((0 : Nat) + q) (0 : UInt8))) : Int) ≤ (90 : Int)) = false,
   (AV.view (1 : Nat) (List.length ls) fun i => [AV.val (Value.string { data := List.toArray (List.getD ls i []) })]) = AV.view (1 : Nat) (List.length ls) fun i => [AV.val (Value.string { data := List.toArray (List.getD ls i []) })],
   (AV.view (1 : Nat) (List.length tb) fun i => [AV.val (Value.bool (List.getD tb i false))]) = AV.view (1 : Nat) (List.length tb) fun i => [AV.val (Value.bool (List.getD tb i false))],
   AV.val (Value.int IntKind.i64 (↑i : Int)) = AV.val (Value.int IntKind.i64 (↑i : Int)),
   AV.val (Value.int IntKind.i64 (IntKind.wrap IntKind.i64 ((↑k : Int) + (1 : Int)))) = AV.val (Value.int IntKind.i64 (↑(k + (1 : Nat)) : Int)),
   AV.val (Value.int IntKind.i64 (IntKind.wrap IntKind.i64 ((↑q : Int) + (1 : Int)))) = AV.val (Value.int IntKind.i64 (↑(q + (1 : Nat)) : Int)),
   AV.sl (0 : Nat) (0 : Nat) (List.length m) none = AV.sl (0 : Nat) (0 : Nat) (List.length m) none,
   AV.sl (1 : Nat) (0 : Nat) (List.length x) none = AV.sl (1 : Nat) (0 : Nat) (List.length x) none,
   SameO (some { t := (9 : Nat), sz := (1 : Nat), exact := false, fz := false, body := Body.flat (rowsL m) }) { t := (9 : Nat), sz := (1 : Nat), exact := false, fz := false, body := Body.flat (List.map (fun x => (AV.brecOn_1.go x (AV.ren._f (renX 0 [(0 : Nat), (1 : Nat)] 50)) (renL._f (renX 0 [(0 : Nat), (1 : Nat)] 50))).1) (rowsL m)) },
   SameO (some { t := (5 : Nat), sz := (1 : Nat), exact := false, fz := true, body := Body.bytes x }) { t := (5 : Nat), sz := (1 : Nat), exact := false, fz := true, body := Body.bytes x }]) := by kernel_rfl

set_option maxRecDepth 100000 in
theorem ni_hi1 (ls : List (List UInt8)) (tb : List Bool) (i : Nat) (k : Nat) (q : Nat) (x : List UInt8) (m : List (List UInt8)) : stepXS kC [(16, { op := [(14, 9, .br true), (14, 14, .get), (14, 20, .get), (14, 22, .br true), (14, 27, .get), (14, 33, .get), (14, 35, .br true), (14, 36, .br false), (14, 37, .br true)], gd := [(14, 5, true), (14, 6, true), (14, 7, true), (14, 8, true), (14, 11, true), (14, 12, true), (14, 13, true), (14, 14, true), (14, 15, true), (14, 16, true), (14, 17, true), (14, 18, true), (14, 19, true), (14, 20, true), (14, 21, true), (14, 22, true), (14, 23, true), (14, 24, false), (14, 25, false), (14, 26, false), (14, 27, false), (14, 28, false), (14, 29, false), (14, 30, true), (14, 31, true), (14, 32, true), (14, 33, true), (14, 34, true), (14, 35, false), (14, 36, true)], br := [(28, true), (68, false)], ob := [(14, 7), (14, 13), (14, 14), (14, 19), (14, 20), (14, 26), (14, 27), (14, 32), (14, 33)] })] Try.prog 16 12 (ncH1 ls tb i k q x m) (ncH1 ls tb i (k + (1 : Nat)) (q + (1 : Nat)) x m) [(0 : Nat), (1 : Nat)] 0 [] =
   some (.normal,
   [decide ((↑q : Int) < (↑(List.length x) : Int)) = true,
   decide ((↑k : Int) < (↑(List.length tb) : Int)) = true,
   decide ((↑k : Int) < (↑(List.length tb) : Int)) = true,
   decide ((↑k : Int) < (↑(List.length tb) : Int)) = true,
   (0 : Int) ≤ (↑k : Int) ∧ (↑k : Int) < (↑(List.length tb) : Int),
   decide ((↑k : Int) < (↑(List.length tb) : Int)) = true,
   decide ((↑k : Int) < (↑(List.length tb) : Int)) = true,
   List.getD tb k false = true,
   List.getD tb k false = true,
   List.getD tb k false = true,
   (0 : Int) ≤ (↑q : Int) ∧ (↑q : Int) < (↑(List.length x) : Int),
   List.getD tb k false = true,
   (0 : Nat) + q < List.length x,
   List.getD tb k false = true,
   List.getD tb k false = true,
   decide ((↑(UInt8.toNat (List.getD x ((0 : Nat) + q) (0 : UInt8))) : Int) ≥ (97 : Int)) = true,
   decide ((↑(UInt8.toNat (List.getD x ((0 : Nat) + q) (0 : UInt8))) : Int) ≥ (97 : Int)) = true,
   decide ((↑(UInt8.toNat (List.getD x ((0 : Nat) + q) (0 : UInt8))) : Int) ≥ (97 : Int)) = true,
   (0 : Int) ≤ (↑q : Int) ∧ (↑q : Int) < (↑(List.length x) : Int),
   decide ((↑(UInt8.toNat (List.getD x ((0 : Nat) + q) (0 : UInt8))) : Int) ≥ (97 : Int)) = true,
   (0 : Nat) + q < List.length x,
   decide ((↑(UInt8.toNat (List.getD x ((0 : Nat) + q) (0 : UInt8))) : Int) ≥ (97 : Int)) = true,
   List.getD tb k false = true,
   decide ((↑(UInt8.toNat (List.getD x ((0 : Nat) + q) (0 : UInt8))) : Int) ≥ (97 : Int)) = true,
   List.getD tb k false = true,
   decide ((↑(UInt8.toNat (List.getD x ((0 : Nat) + q) (0 : UInt8))) : Int) ≤ (122 : Int)) = false,
   decide ((↑(UInt8.toNat (List.getD x ((0 : Nat) + q) (0 : UInt8))) : Int) ≤ (122 : Int)) = false,
   decide ((↑(UInt8.toNat (List.getD x ((0 : Nat) + q) (0 : UInt8))) : Int) ≤ (122 : Int)) = false,
   (0 : Int) ≤ (↑q : Int) ∧ (↑q : Int) < (↑(List.length x) : Int),
   decide ((↑(UInt8.toNat (List.getD x ((0 : Nat) + q) (0 : UInt8))) : Int) ≤ (122 : Int)) = false,
   (0 : Nat) + q < List.length x,
   decide ((↑(UInt8.toNat (List.getD x ((0 : Nat) + q) (0 : UInt8))) : Int) ≤ (122 : Int)) = false,
   decide ((↑(UInt8.toNat (List.getD x ((0 : Nat) + q) (0 : UInt8))) : Int) ≤ (122 : Int)) = false,
   decide ((↑(UInt8.toNat (List.getD x ((0 : Nat) + q) (0 : UInt8))) : Int) ≥ (65 : Int)) = true,
   decide ((↑(UInt8.toNat (List.getD x ((0 : Nat) + q) (0 : UInt8))) : Int) ≥ (65 : Int)) = true,
   decide ((↑(UInt8.toNat (List.getD x ((0 : Nat) + q) (0 : UInt8))) : Int) ≥ (65 : Int)) = true,
   (0 : Int) ≤ (↑q : Int) ∧ (↑q : Int) < (↑(List.length x) : Int),
   decide ((↑(UInt8.toNat (List.getD x ((0 : Nat) + q) (0 : UInt8))) : Int) ≥ (65 : Int)) = true,
   (0 : Nat) + q < List.length x,
   decide ((↑(UInt8.toNat (List.getD x ((0 : Nat) + q) (0 : UInt8))) : Int) ≥ (65 : Int)) = true,
   decide ((↑(UInt8.toNat (List.getD x ((0 : Nat) + q) (0 : UInt8))) : Int) ≤ (122 : Int)) = false,
   decide ((↑(UInt8.toNat (List.getD x ((0 : Nat) + q) (0 : UInt8))) : Int) ≥ (65 : Int)) = true,
   List.getD tb k false = true,
   decide ((↑(UInt8.toNat (List.getD x ((0 : Nat) + q) (0 : UInt8))) : Int) ≤ (122 : Int)) = false,
   List.getD tb k false = true,
   decide ((↑(UInt8.toNat (List.getD x ((0 : Nat) + q) (0 : UInt8))) : Int) ≤ (90 : Int)) = false,
   (AV.view (1 : Nat) (List.length ls) fun i => [AV.val (Value.string { data := List.toArray (List.getD ls i []) })]) = AV.view (1 : Nat) (List.length ls) fun i => [AV.val (Value.string { data := List.toArray (List.getD ls i []) })],
   (AV.view (1 : Nat) (List.length tb) fun i => [AV.val (Value.bool (List.getD tb i false))]) = AV.view (1 : Nat) (List.length tb) fun i => [AV.val (Value.bool (List.getD tb i false))],
   AV.val (Value.int IntKind.i64 (↑i : Int)) = AV.val (Value.int IntKind.i64 (↑i : Int)),
   AV.val (Value.int IntKind.i64 (IntKind.wrap IntKind.i64 ((↑k : Int) + (1 : Int)))) = AV.val (Value.int IntKind.i64 (↑(k + (1 : Nat)) : Int)),
   AV.val (Value.int IntKind.i64 (IntKind.wrap IntKind.i64 ((↑q : Int) + (1 : Int)))) = AV.val (Value.int IntKind.i64 (↑(q + (1 : Nat)) : Int)),
   AV.sl (0 : Nat) (0 : Nat) (List.length m) none = AV.sl (0 : Nat) (0 : Nat) (List.length m) none,
   AV.sl (1 : Nat) (0 : Nat) (List.length x) none = AV.sl (1 : Nat) (0 : Nat) (List.length x) none,
   SameO (some { t := (9 : Nat), sz := (1 : Nat), exact := false, fz := false, body := Body.flat (rowsL m) }) { t := (9 : Nat), sz := (1 : Nat), exact := false, fz := false, body := Body.flat (List.map (fun x => (AV.brecOn_1.go x (AV.ren._f (renX 0 [(0 : Nat), (1 : Nat)] 50)) (renL._f (renX 0 [(0 : Nat), (1 : Nat)] 50))).1) (rowsL m)) },
   SameO (some { t := (5 : Nat), sz := (1 : Nat), exact := false, fz := true, body := Body.bytes x }) { t := (5 : Nat), sz := (1 : Nat), exact := false, fz := true, body := Body.bytes x }]) := by kernel_rfl

set_option maxRecDepth 100000 in
theorem ni_end1 (ls : List (List UInt8)) (tb : List Bool) (i : Nat) (k : Nat) (q : Nat) (x : List UInt8) (m : List (List UInt8)) : stepXS kC [(16, { br := [(28, false)] })] Try.prog 16 12 (ncH1 ls tb i k q x m) (ncK1 ls tb i k x m) [(0 : Nat), (1 : Nat)] 0 [] =
   some (.exit 2,
   [decide ((↑q : Int) < (↑(List.length x) : Int)) = false,
   (AV.view (1 : Nat) (List.length ls) fun i => [AV.val (Value.string { data := List.toArray (List.getD ls i []) })]) = AV.view (1 : Nat) (List.length ls) fun i => [AV.val (Value.string { data := List.toArray (List.getD ls i []) })],
   (AV.view (1 : Nat) (List.length tb) fun i => [AV.val (Value.bool (List.getD tb i false))]) = AV.view (1 : Nat) (List.length tb) fun i => [AV.val (Value.bool (List.getD tb i false))],
   AV.val (Value.int IntKind.i64 (↑i : Int)) = AV.val (Value.int IntKind.i64 (↑i : Int)),
   AV.val (Value.int IntKind.i64 (↑k : Int)) = AV.val (Value.int IntKind.i64 (↑k : Int)),
   AV.sl (0 : Nat) (0 : Nat) (List.length m) none = AV.sl (0 : Nat) (0 : Nat) (List.length m) none,
   AV.sl (1 : Nat) (0 : Nat) (List.length x) none = AV.sl (1 : Nat) (0 : Nat) (List.length x) none,
   SameO (some { t := (9 : Nat), sz := (1 : Nat), exact := false, fz := false, body := Body.flat (rowsL m) }) { t := (9 : Nat), sz := (1 : Nat), exact := false, fz := false, body := Body.flat (List.map (fun x => (AV.brecOn_1.go x (AV.ren._f (renX 0 [(0 : Nat), (1 : Nat)] 6)) (renL._f (renX 0 [(0 : Nat), (1 : Nat)] 6))).1) (rowsL m)) },
   SameO (some { t := (5 : Nat), sz := (1 : Nat), exact := false, fz := true, body := Body.bytes x }) { t := (5 : Nat), sz := (1 : Nat), exact := false, fz := true, body := Body.bytes x }]) := by kernel_rfl

set_option maxRecDepth 100000 in
theorem no_step1 (ls : List (List UInt8)) (tb : List Bool) (i : Nat) (k : Nat) (k2 : Nat) (y : List UInt8) (m : List (List UInt8)) : stepXS kC [(16, { br := [(17, true)], ob := [(10, 2), (10, 4), (17, 2), (17, 4)] })] Try.prog 16 8 (ncG1 ls tb i k m) (ncG1 ls tb (i + (1 : Nat)) k2 (m ++ [y])) [(6 : Nat)] 0 [(12, niL [(0 : Nat), (9 : Nat)] (ncH1 ls tb i k (0 : Nat) (List.getD ls i []) m) (ncK1 ls tb i k2 y m))] =
   some (.normal,
   [decide ((↑i : Int) < (↑(List.length ls) : Int)) = true,
   (0 : Int) ≤ (↑i : Int) ∧ (↑i : Int) < (↑(List.length ls) : Int),
   List.length (List.getD ls i []) ≤ (1000000000 : Nat),
   (AV.view (1 : Nat) (List.length ls) fun i => [AV.val (Value.string { data := List.toArray (List.getD ls i []) })]) = AV.view (1 : Nat) (List.length ls) fun i => [AV.val (Value.string { data := List.toArray (List.getD ls i []) })],
   (AV.view (1 : Nat) (List.length tb) fun i => [AV.val (Value.bool (List.getD tb i false))]) = AV.view (1 : Nat) (List.length tb) fun i => [AV.val (Value.bool (List.getD tb i false))],
   AV.val (Value.int IntKind.i64 (↑i : Int)) = AV.val (Value.int IntKind.i64 (↑i : Int)),
   AV.val (Value.int IntKind.i64 (↑k : Int)) = AV.val (Value.int IntKind.i64 (↑k : Int)),
   AV.val (Value.int IntKind.i64 (0 : Int)) = AV.val (Value.int IntKind.i64 (0 : Int)),
   AV.sl (0 : Nat) (0 : Nat) (List.length m) none = AV.sl (0 : Nat) (0 : Nat) (List.length m) none,
   AV.sl 9 (0 : Nat) (List.length (List.getD ls i [])) none = AV.sl (9 : Nat) (0 : Nat) (List.length (List.getD ls i [])) none,
   SameO (some { t := (9 : Nat), sz := (1 : Nat), exact := false, fz := false, body := Body.flat (rowsL m) }) { t := (9 : Nat), sz := (1 : Nat), exact := false, fz := false, body := Body.flat (List.map (fun x => (AV.brecOn_1.go x (AV.ren._f (renX 0 [(0 : Nat), (9 : Nat)] 12)) (renL._f (renX 0 [(0 : Nat), (9 : Nat)] 12))).1) (rowsL m)) },
   SameO (some { t := (5 : Nat), sz := (1 : Nat), exact := false, fz := true, body := Body.bytes (List.getD ls i []) }) { t := (5 : Nat), sz := (1 : Nat), exact := false, fz := true, body := Body.bytes (List.getD ls i []) },
   EvXL Try.prog 0 (loopAt Try.prog 16 12) (GoalX.st (LoopX.G (niL [(0 : Nat), (9 : Nat)] (ncH1 ls tb i k (0 : Nat) (List.getD ls i []) m) (ncK1 ls tb i k2 y m))) 0) (LoopX.ex (niL [(0 : Nat), (9 : Nat)] (ncH1 ls tb i k (0 : Nat) (List.getD ls i []) m) (ncK1 ls tb i k2 y m))) (GoalX.st (LoopX.E (niL [(0 : Nat), (9 : Nat)] (ncH1 ls tb i k (0 : Nat) (List.getD ls i []) m) (ncK1 ls tb i k2 y m))) 0),
   (0 : Nat) + List.length y ≤ List.length y,
   List.length (rowsL m) = List.length m,
   List.length m + (1 : Nat) ≤ (1000000000 : Nat),
   (List.length m + (1 : Nat)) * (16 : Nat) ≤ (140737488355328 : Nat),
   (AV.view (1 : Nat) (List.length ls) fun i => [AV.val (Value.string { data := List.toArray (List.getD ls i []) })]) = AV.view (1 : Nat) (List.length ls) fun i => [AV.val (Value.string { data := List.toArray (List.getD ls i []) })],
   (AV.view (1 : Nat) (List.length tb) fun i => [AV.val (Value.bool (List.getD tb i false))]) = AV.view (1 : Nat) (List.length tb) fun i => [AV.val (Value.bool (List.getD tb i false))],
   AV.val (Value.int IntKind.i64 (IntKind.wrap IntKind.i64 ((↑i : Int) + (1 : Int)))) = AV.val (Value.int IntKind.i64 (↑(i + (1 : Nat)) : Int)),
   AV.val (Value.int IntKind.i64 (↑k2 : Int)) = AV.val (Value.int IntKind.i64 (↑k2 : Int)),
   AV.sl 6 (0 : Nat) (List.length m + (1 : Nat)) none = AV.sl (6 : Nat) (0 : Nat) (List.length (m ++ [y])) none,
   SameO (some { t := (9 : Nat), sz := (1 : Nat), exact := false, fz := false, body := Body.flat (rowsL m ++ [[AV.val (Value.string { data := List.toArray (List.take (List.length y) y) })]]) }) { t := (9 : Nat), sz := (1 : Nat), exact := false, fz := false, body := Body.flat (List.map (fun x => (AV.brecOn_1.go x (AV.ren._f (renX 0 [(6 : Nat)] 11)) (renL._f (renX 0 [(6 : Nat)] 11))).1) (rowsL (m ++ [y]))) }]) := by kernel_rfl

set_option maxRecDepth 100000 in
theorem no_end1 (ls : List (List UInt8)) (tb : List Bool) (i : Nat) (k : Nat) (m : List (List UInt8)) : stepXS kC [(16, { br := [(17, false)] })] Try.prog 16 8 (ncG1 ls tb i k m) (ncE1 ls m) [(0 : Nat)] 0 [] =
   some (.exit 0,
   [decide ((↑i : Int) < (↑(List.length ls) : Int)) = false,
   (AV.view (1 : Nat) (List.length ls) fun i => [AV.val (Value.string { data := List.toArray (List.getD ls i []) })]) = AV.view (1 : Nat) (List.length ls) fun i => [AV.val (Value.string { data := List.toArray (List.getD ls i []) })],
   AV.sl (0 : Nat) (0 : Nat) (List.length m) none = AV.sl (0 : Nat) (0 : Nat) (List.length m) none,
   SameO (some { t := (9 : Nat), sz := (1 : Nat), exact := false, fz := false, body := Body.flat (rowsL m) }) { t := (9 : Nat), sz := (1 : Nat), exact := false, fz := false, body := Body.flat (List.map (fun x => (AV.brecOn_1.go x (AV.ren._f (renX 0 [(0 : Nat)] 5)) (renL._f (renX 0 [(0 : Nat)] 5))).1) (rowsL m)) }]) := by kernel_rfl

set_option maxRecDepth 100000 in
theorem nc20_long (ls : List (List UInt8)) (tb : List Bool) : outXS kC [(16, { br := [(13, true)] })] Try.prog 16 [AV.view (1 : Nat) (List.length ls) fun i => [AV.val (Value.string { data := List.toArray (List.getD ls i []) })], AV.view (1 : Nat) (List.length tb) fun i => [AV.val (Value.bool (List.getD tb i false))]] [] 0 [] [] =
   some (AV.val (Value.bool true), [], 6,
   [(AV.view (1 : Nat) (List.length ls) fun i => [AV.val (Value.string { data := List.toArray (List.getD ls i []) })]) = AV.view (1 : Nat) (List.length (lsOf (AV.view (1 : Nat) (List.length ls) fun i => [AV.val (Value.string { data := List.toArray (List.getD ls i []) })]))) fun i => [AV.val (Value.string { data := List.toArray (List.getD (lsOf (AV.view (1 : Nat) (List.length ls) fun i => [AV.val (Value.string { data := List.toArray (List.getD ls i []) })])) i []) })],
   True,
   longN (lsOf (AV.view (1 : Nat) (List.length ls) fun i => [AV.val (Value.string { data := List.toArray (List.getD ls i []) })])) = true]) := by kernel_rfl

set_option maxRecDepth 100000 in
theorem nc20_nil (ls : List (List UInt8)) (tb : List Bool) : outXS kC [(16, { op := [(18, 7, .br true), (18, 15, .br true)], gd := [(18, 4, true), (18, 5, true), (18, 6, true), (18, 9, true), (18, 10, true), (18, 11, true), (18, 12, true), (18, 13, true), (18, 14, true)], br := [(13, false)] })] Try.prog 16 [AV.view (1 : Nat) (List.length ls) fun i => [AV.val (Value.string { data := List.toArray (List.getD ls i []) })], AV.view (1 : Nat) (List.length tb) fun i => [AV.val (Value.bool (List.getD tb i false))]] [] 0 [] [(8, ncL ls tb (ncE0 ls))] =
   some (AV.val (Value.bool !sameN (lsOf (AV.view (1 : Nat) (List.length ls) fun i => [AV.val (Value.string { data := List.toArray (List.getD ls i []) })])) (txtL [[AV.val (Value.string { data := #[(120 : UInt8)] })]])), [], 32,
   [(AV.view (1 : Nat) (List.length ls) fun i => [AV.val (Value.string { data := List.toArray (List.getD ls i []) })]) = AV.view (1 : Nat) (List.length (lsOf (AV.view (1 : Nat) (List.length ls) fun i => [AV.val (Value.string { data := List.toArray (List.getD ls i []) })]))) fun i => [AV.val (Value.string { data := List.toArray (List.getD (lsOf (AV.view (1 : Nat) (List.length ls) fun i => [AV.val (Value.string { data := List.toArray (List.getD ls i []) })])) i []) })],
   True,
   longN (lsOf (AV.view (1 : Nat) (List.length ls) fun i => [AV.val (Value.string { data := List.toArray (List.getD ls i []) })])) = false,
   (AV.view (1 : Nat) (List.length ls) fun i => [AV.val (Value.string { data := List.toArray (List.getD ls i []) })]) = AV.view (1 : Nat) (List.length ls) fun i => [AV.val (Value.string { data := List.toArray (List.getD ls i []) })],
   (AV.view (1 : Nat) (List.length tb) fun i => [AV.val (Value.bool (List.getD tb i false))]) = AV.view (1 : Nat) (List.length tb) fun i => [AV.val (Value.bool (List.getD tb i false))],
   AV.val (Value.int IntKind.i64 (0 : Int)) = AV.val (Value.int IntKind.i64 (0 : Int)),
   AV.val (Value.int IntKind.i64 (0 : Int)) = AV.val (Value.int IntKind.i64 (0 : Int)),
   EvXL Try.prog 0 (loopAt Try.prog 16 8) (GoalX.st (LoopX.G (ncL ls tb (ncE0 ls))) 0) (LoopX.ex (ncL ls tb (ncE0 ls))) (GoalX.st (LoopX.E (ncL ls tb (ncE0 ls))) 0),
   (AV.view (1 : Nat) (List.length ls) fun i => [AV.val (Value.string { data := List.toArray (List.getD ls i []) })]) = AV.view (1 : Nat) (List.length (lsOf (AV.view (1 : Nat) (List.length ls) fun i => [AV.val (Value.string { data := List.toArray (List.getD ls i []) })]))) fun i => [AV.val (Value.string { data := List.toArray (List.getD (lsOf (AV.view (1 : Nat) (List.length ls) fun i => [AV.val (Value.string { data := List.toArray (List.getD ls i []) })])) i []) })],
   Value.slice none (0 : Nat) (0 : Nat) = Value.slice none (0 : Nat) (0 : Nat),
   lsK (lsOf (AV.view (1 : Nat) (List.length ls) fun i => [AV.val (Value.string { data := List.toArray (List.getD ls i []) })])),
   sameN (lsOf (AV.view (1 : Nat) (List.length ls) fun i => [AV.val (Value.string { data := List.toArray (List.getD ls i []) })])) [] = true,
   sameN (lsOf (AV.view (1 : Nat) (List.length ls) fun i => [AV.val (Value.string { data := List.toArray (List.getD ls i []) })])) [] = true,
   sameN (lsOf (AV.view (1 : Nat) (List.length ls) fun i => [AV.val (Value.string { data := List.toArray (List.getD ls i []) })])) [] = true,
   Value.slice none (0 : Nat) (0 : Nat) = Value.slice none (0 : Nat) (0 : Nat),
   (AV.view (1 : Nat) (List.length ls) fun i => [AV.val (Value.string { data := List.toArray (List.getD ls i []) })]) = AV.view (1 : Nat) (List.length (lsOf (AV.view (1 : Nat) (List.length ls) fun i => [AV.val (Value.string { data := List.toArray (List.getD ls i []) })]))) fun i => [AV.val (Value.string { data := List.toArray (List.getD (lsOf (AV.view (1 : Nat) (List.length ls) fun i => [AV.val (Value.string { data := List.toArray (List.getD ls i []) })])) i []) })],
   lsK [],
   sameN (lsOf (AV.view (1 : Nat) (List.length ls) fun i => [AV.val (Value.string { data := List.toArray (List.getD ls i []) })])) [] = true,
   sameN [] (lsOf (AV.view (1 : Nat) (List.length ls) fun i => [AV.val (Value.string { data := List.toArray (List.getD ls i []) })])) = true,
   sameN [] (lsOf (AV.view (1 : Nat) (List.length ls) fun i => [AV.val (Value.string { data := List.toArray (List.getD ls i []) })])) = true,
   sameN [] (lsOf (AV.view (1 : Nat) (List.length ls) fun i => [AV.val (Value.string { data := List.toArray (List.getD ls i []) })])) = true,
   sameN [] (lsOf (AV.view (1 : Nat) (List.length ls) fun i => [AV.val (Value.string { data := List.toArray (List.getD ls i []) })])) = true,
   sameN [] (lsOf (AV.view (1 : Nat) (List.length ls) fun i => [AV.val (Value.string { data := List.toArray (List.getD ls i []) })])) = true,
   (AV.view (1 : Nat) (List.length ls) fun i => [AV.val (Value.string { data := List.toArray (List.getD ls i []) })]) = AV.view (1 : Nat) (List.length (lsOf (AV.view (1 : Nat) (List.length ls) fun i => [AV.val (Value.string { data := List.toArray (List.getD ls i []) })]))) fun i => [AV.val (Value.string { data := List.toArray (List.getD (lsOf (AV.view (1 : Nat) (List.length ls) fun i => [AV.val (Value.string { data := List.toArray (List.getD ls i []) })])) i []) })],
   txtP [[AV.val (Value.string { data := #[(120 : UInt8)] })]] ∧ (1 : Nat) = (1 : Nat) ∧ (1 : Nat) ≤ (1 : Nat),
   lsK (lsOf (AV.view (1 : Nat) (List.length ls) fun i => [AV.val (Value.string { data := List.toArray (List.getD ls i []) })])),
   sameN [] (lsOf (AV.view (1 : Nat) (List.length ls) fun i => [AV.val (Value.string { data := List.toArray (List.getD ls i []) })])) = true,
   sameN [] (lsOf (AV.view (1 : Nat) (List.length ls) fun i => [AV.val (Value.string { data := List.toArray (List.getD ls i []) })])) = true]) := by kernel_rfl

set_option maxRecDepth 100000 in
theorem nc20_ok (ls : List (List UInt8)) (tb : List Bool) (m : List (List UInt8)) : outXS kC [(16, { op := [(18, 7, .br true), (18, 15, .br true)], gd := [(18, 4, true), (18, 5, true), (18, 6, true), (18, 9, true), (18, 10, true), (18, 11, true), (18, 12, true), (18, 13, true), (18, 14, true)], br := [(13, false)], ob := [(18, 12)] })] Try.prog 16 [AV.view (1 : Nat) (List.length ls) fun i => [AV.val (Value.string { data := List.toArray (List.getD ls i []) })], AV.view (1 : Nat) (List.length tb) fun i => [AV.val (Value.bool (List.getD tb i false))]] [] 0 [] [(8, ncL ls tb (ncE1 ls m))] =
   some (AV.val (Value.bool !sameN (lsOf (AV.view (1 : Nat) (List.length ls) fun i => [AV.val (Value.string { data := List.toArray (List.getD ls i []) })])) (txtL (List.take (List.length m + (1 : Nat)) (rowsL m ++ [[AV.val (Value.string { data := #[(120 : UInt8)] })]])))), [], 33,
   [(AV.view (1 : Nat) (List.length ls) fun i => [AV.val (Value.string { data := List.toArray (List.getD ls i []) })]) = AV.view (1 : Nat) (List.length (lsOf (AV.view (1 : Nat) (List.length ls) fun i => [AV.val (Value.string { data := List.toArray (List.getD ls i []) })]))) fun i => [AV.val (Value.string { data := List.toArray (List.getD (lsOf (AV.view (1 : Nat) (List.length ls) fun i => [AV.val (Value.string { data := List.toArray (List.getD ls i []) })])) i []) })],
   True,
   longN (lsOf (AV.view (1 : Nat) (List.length ls) fun i => [AV.val (Value.string { data := List.toArray (List.getD ls i []) })])) = false,
   (AV.view (1 : Nat) (List.length ls) fun i => [AV.val (Value.string { data := List.toArray (List.getD ls i []) })]) = AV.view (1 : Nat) (List.length ls) fun i => [AV.val (Value.string { data := List.toArray (List.getD ls i []) })],
   (AV.view (1 : Nat) (List.length tb) fun i => [AV.val (Value.bool (List.getD tb i false))]) = AV.view (1 : Nat) (List.length tb) fun i => [AV.val (Value.bool (List.getD tb i false))],
   AV.val (Value.int IntKind.i64 (0 : Int)) = AV.val (Value.int IntKind.i64 (0 : Int)),
   AV.val (Value.int IntKind.i64 (0 : Int)) = AV.val (Value.int IntKind.i64 (0 : Int)),
   EvXL Try.prog 0 (loopAt Try.prog 16 8) (GoalX.st (LoopX.G (ncL ls tb (ncE1 ls m))) 0) (LoopX.ex (ncL ls tb (ncE1 ls m))) (GoalX.st (LoopX.E (ncL ls tb (ncE1 ls m))) 0),
   (AV.view (1 : Nat) (List.length ls) fun i => [AV.val (Value.string { data := List.toArray (List.getD ls i []) })]) = AV.view (1 : Nat) (List.length (lsOf (AV.view (1 : Nat) (List.length ls) fun i => [AV.val (Value.string { data := List.toArray (List.getD ls i []) })]))) fun i => [AV.val (Value.string { data := List.toArray (List.getD (lsOf (AV.view (1 : Nat) (List.length ls) fun i => [AV.val (Value.string { data := List.toArray (List.getD ls i []) })])) i []) })],
   txtP (List.take (List.length m) (rowsL m)) ∧ (1 : Nat) = (1 : Nat) ∧ (0 : Nat) + List.length m ≤ List.length (rowsL m),
   lsK (lsOf (AV.view (1 : Nat) (List.length ls) fun i => [AV.val (Value.string { data := List.toArray (List.getD ls i []) })])),
   sameN (lsOf (AV.view (1 : Nat) (List.length ls) fun i => [AV.val (Value.string { data := List.toArray (List.getD ls i []) })])) (txtL (List.take (List.length m) (rowsL m))) = true,
   sameN (lsOf (AV.view (1 : Nat) (List.length ls) fun i => [AV.val (Value.string { data := List.toArray (List.getD ls i []) })])) (txtL (List.take (List.length m) (rowsL m))) = true,
   sameN (lsOf (AV.view (1 : Nat) (List.length ls) fun i => [AV.val (Value.string { data := List.toArray (List.getD ls i []) })])) (txtL (List.take (List.length m) (rowsL m))) = true,
   txtP (List.take (List.length m) (rowsL m)) ∧ (1 : Nat) = (1 : Nat) ∧ (0 : Nat) + List.length m ≤ List.length (rowsL m),
   (AV.view (1 : Nat) (List.length ls) fun i => [AV.val (Value.string { data := List.toArray (List.getD ls i []) })]) = AV.view (1 : Nat) (List.length (lsOf (AV.view (1 : Nat) (List.length ls) fun i => [AV.val (Value.string { data := List.toArray (List.getD ls i []) })]))) fun i => [AV.val (Value.string { data := List.toArray (List.getD (lsOf (AV.view (1 : Nat) (List.length ls) fun i => [AV.val (Value.string { data := List.toArray (List.getD ls i []) })])) i []) })],
   lsK (txtL (List.take (List.length m) (rowsL m))),
   sameN (lsOf (AV.view (1 : Nat) (List.length ls) fun i => [AV.val (Value.string { data := List.toArray (List.getD ls i []) })])) (txtL (List.take (List.length m) (rowsL m))) = true,
   sameN (txtL (List.take (List.length m) (rowsL m))) (lsOf (AV.view (1 : Nat) (List.length ls) fun i => [AV.val (Value.string { data := List.toArray (List.getD ls i []) })])) = true,
   sameN (txtL (List.take (List.length m) (rowsL m))) (lsOf (AV.view (1 : Nat) (List.length ls) fun i => [AV.val (Value.string { data := List.toArray (List.getD ls i []) })])) = true,
   sameN (txtL (List.take (List.length m) (rowsL m))) (lsOf (AV.view (1 : Nat) (List.length ls) fun i => [AV.val (Value.string { data := List.toArray (List.getD ls i []) })])) = true,
   sameN (txtL (List.take (List.length m) (rowsL m))) (lsOf (AV.view (1 : Nat) (List.length ls) fun i => [AV.val (Value.string { data := List.toArray (List.getD ls i []) })])) = true,
   List.length (rowsL m) = List.length m,
   List.length m + (1 : Nat) ≤ (1000000000 : Nat),
   (List.length m + (1 : Nat)) * (16 : Nat) ≤ (140737488355328 : Nat),
   sameN (txtL (List.take (List.length m) (rowsL m))) (lsOf (AV.view (1 : Nat) (List.length ls) fun i => [AV.val (Value.string { data := List.toArray (List.getD ls i []) })])) = true,
   (AV.view (1 : Nat) (List.length ls) fun i => [AV.val (Value.string { data := List.toArray (List.getD ls i []) })]) = AV.view (1 : Nat) (List.length (lsOf (AV.view (1 : Nat) (List.length ls) fun i => [AV.val (Value.string { data := List.toArray (List.getD ls i []) })]))) fun i => [AV.val (Value.string { data := List.toArray (List.getD (lsOf (AV.view (1 : Nat) (List.length ls) fun i => [AV.val (Value.string { data := List.toArray (List.getD ls i []) })])) i []) })],
   txtP (List.take (List.length m + (1 : Nat)) (rowsL m ++ [[AV.val (Value.string { data := #[(120 : UInt8)] })]])) ∧ (1 : Nat) = (1 : Nat) ∧ (0 : Nat) + (List.length m + (1 : Nat)) ≤ List.length (rowsL m ++ [[AV.val (Value.string { data := #[(120 : UInt8)] })]]),
   lsK (lsOf (AV.view (1 : Nat) (List.length ls) fun i => [AV.val (Value.string { data := List.toArray (List.getD ls i []) })])),
   sameN (txtL (List.take (List.length m) (rowsL m))) (lsOf (AV.view (1 : Nat) (List.length ls) fun i => [AV.val (Value.string { data := List.toArray (List.getD ls i []) })])) = true,
   sameN (txtL (List.take (List.length m) (rowsL m))) (lsOf (AV.view (1 : Nat) (List.length ls) fun i => [AV.val (Value.string { data := List.toArray (List.getD ls i []) })])) = true]) := by kernel_rfl
end Go.Proofs.Ytmilcpejchjleaa

/- Names are alike, whatever letters of theirs are great: the law NameCases answers true. -/
namespace Go.Proofs.Ytmilcpejchjleaa
open Go.RowKit
set_option linter.unusedSimpArgs false
set_option linter.unusedVariables false

theorem xor_b : ∀ c : Fin 256, UInt8.ofNat (Int.toNat (bits BinOp.xor IntKind.u8 (((UInt8.ofNat c.val).toNat : Nat) : Int) (32 : Int))) = UInt8.ofNat c.val ^^^ 32 ∧ 0 ≤ bits BinOp.xor IntKind.u8 (((UInt8.ofNat c.val).toNat : Nat) : Int) (32 : Int) ∧ bits BinOp.xor IntKind.u8 (((UInt8.ofNat c.val).toNat : Nat) : Int) (32 : Int) < 256 := by decide +kernel
theorem xor_c (c : UInt8) : UInt8.ofNat (Int.toNat (bits BinOp.xor IntKind.u8 ((c.toNat : Nat) : Int) (32 : Int))) = c ^^^ 32 ∧ 0 ≤ bits BinOp.xor IntKind.u8 ((c.toNat : Nat) : Int) (32 : Int) ∧ bits BinOp.xor IntKind.u8 ((c.toNat : Nat) : Int) (32 : Int) < 256 := by
  have h := xor_b ⟨c.toNat, c.toNat_lt⟩
  simpa only [UInt8.ofNat_toNat] using h
theorem low_b : ∀ c : Fin 256, lowB (twC true (UInt8.ofNat c.val)) = lowB (UInt8.ofNat c.val) := by decide +kernel
theorem low_tw (t : Bool) (c : UInt8) : lowB (twC t c) = lowB c := by
  cases t with
  | false => rfl
  | true =>
    have h := low_b ⟨c.toNat, c.toNat_lt⟩
    simpa only [UInt8.ofNat_toNat] using h
theorem twL_low (tb : List Bool) : ∀ (s : List UInt8) (k : Nat), (twL tb k s).map lowB = s.map lowB
  | [], _ => rfl
  | c :: r, k => by rw [twL, List.map_cons, List.map_cons, low_tw, twL_low tb r (k + 1)]
theorem twL_len (tb : List Bool) (s : List UInt8) (k : Nat) : (twL tb k s).length = s.length := by
  simpa using congrArg List.length (twL_low tb s k)
theorem twN_same (tb : List Bool) : ∀ (ls : List (List UInt8)) (k : Nat), sameN ls (twN tb k ls) = true ∧ sameN (twN tb k ls) ls = true ∧ (twN tb k ls).length = ls.length
  | [], _ => ⟨rfl, rfl, rfl⟩
  | s :: r, k => by
    obtain ⟨h1, h2, h3⟩ := twN_same tb r (k + s.length)
    refine ⟨?_, ?_, by simp [twN, h3]⟩
    · rw [twN, sameN, h1, alike_map, decide_eq_true (twL_low tb s k).symm]; rfl
    · rw [twN, sameN, h2, alike_map, decide_eq_true (twL_low tb s k)]; rfl
theorem twN_mem (tb : List Bool) (B : Nat) : ∀ (ls : List (List UInt8)) (k : Nat), (∀ s ∈ ls, s.length ≤ B) → ∀ s ∈ twN tb k ls, s.length ≤ B
  | [], _, _, s, hs => by cases hs
  | t :: r, k, h, s, hs => by
    rcases List.mem_cons.1 hs with h1 | h1
    · rw [h1, twL_len]; exact h t (List.mem_cons_self ..)
    · exact twN_mem tb B r _ (fun x hx => h x (List.mem_cons_of_mem _ hx)) s h1

theorem set_self (x : List UInt8) (q : Nat) : x.set q (x.getD q 0) = x := by
  apply List.ext_getElem?
  intro j
  rw [List.getElem?_set]
  split
  · rename_i h
    subst h
    split
    · rename_i h
      rw [List.getD_eq_getElem?_getD, List.getElem?_eq_getElem h]
      rfl
    · rename_i h
      rw [List.getElem?_eq_none (by omega)]
  · rfl
theorem getD_pre (p r : List UInt8) (c : UInt8) : (p ++ c :: r).getD p.length 0 = c := by simp [List.getD_eq_getElem?_getD]
theorem set_pre (p r : List UInt8) (c d : UInt8) : (p ++ c :: r).set p.length d = (p ++ [d]) ++ r := by simp [List.set_append]

theorem nj_step0 (ls : List (List UInt8)) (tb : List Bool) (i k q : Nat) (x : List UInt8) (hq : q < x.length) (hxl : x.length ≤ 1000000) (hk : k ≤ 1000000000) :
    EvX Try.prog 0 (loopAt Try.prog 16 12) ((ncH0 ls tb i k q x).st 0) .normal ((ncH0 ls tb i (k + 1) (q + 1) (x.set q (twC (tb.getD k false) (x.getD q 0)))).st 0) := by
  have hc := (x.getD q 0).toNat_lt
  obtain ⟨hx1, hx2, hx3⟩ := xor_c (x.getD q 0)
  have hxb : isByteAV (AV.val (Value.int IntKind.u8 (bits BinOp.xor IntKind.u8 (((x.getD q 0).toNat : Nat) : Int) (32 : Int)))) := ⟨hx2, hx3⟩
  have z0 : 0 + q = q := Nat.zero_add _
  have hT : True := True.intro
  have no : ∀ t, (t && isLet (x.getD q 0)) = false → x.set q (twC t (x.getD q 0)) = x := fun t h => by
    unfold twC
    rw [h]
    exact set_self x q
  have yes : isLet (x.getD q 0) = true → twC true (x.getD q 0) = x.getD q 0 ^^^ 32 := fun h => by
    unfold twC
    rw [h]
    rfl
  by_cases hl : tb.length ≤ k
  · have ht : tb.getD k false = false := by rw [List.getD_eq_getElem?_getD, List.getElem?_eq_none hl]; rfl
    rw [ht, no false (by simp)]
    exact stepXS_ok kC_ok (ni_far0 ls tb i k q x) (by
        simp only [z0]
        repeat' (first | exact allNil | refine allCons ?_ ?_ | (with_reducible refine allRp _ ?_ ?_))
        all_goals first | (with_reducible rfl) | exact True.intro | exact ht | exact hT | exact decide_eq_true (by omega) | exact decide_eq_false (by omega) | omega | exact ⟨by omega, by omega⟩ | exact sI_succ k (by omega) | exact sI_succ q (by omega) | exact hxb | exact same_flat (fun _ => rfl) rfl | (simp; done) | (unfold SameO; simp only [hx1]; done) | exact rfl)
  cases ht : tb.getD k false with
  | false =>
    rw [no false (by simp)]
    exact stepXS_ok kC_ok (ni_no0 ls tb i k q x) (by
        simp only [z0]
        repeat' (first | exact allNil | refine allCons ?_ ?_ | (with_reducible refine allRp _ ?_ ?_))
        all_goals first | (with_reducible rfl) | exact True.intro | exact ht | exact hT | exact decide_eq_true (by omega) | exact decide_eq_false (by omega) | omega | exact ⟨by omega, by omega⟩ | exact sI_succ k (by omega) | exact sI_succ q (by omega) | exact hxb | exact same_flat (fun _ => rfl) rfl | (simp; done) | (unfold SameO; simp only [hx1]; done) | exact rfl)
  | true =>
    by_cases h1 : 97 ≤ (x.getD q 0).toNat
    · by_cases h2 : (x.getD q 0).toNat ≤ 122
      · rw [yes (by unfold isLet; rw [decide_eq_true (⟨h1, h2⟩ : _ ∧ _)]; rfl)]
        exact stepXS_ok kC_ok (ni_sm0 ls tb i k q x) (by
        simp only [z0]
        repeat' (first | exact allNil | refine allCons ?_ ?_ | (with_reducible refine allRp _ ?_ ?_))
        all_goals first | (with_reducible rfl) | exact True.intro | exact ht | exact hT | exact decide_eq_true (by omega) | exact decide_eq_false (by omega) | omega | exact ⟨by omega, by omega⟩ | exact sI_succ k (by omega) | exact sI_succ q (by omega) | exact hxb | exact same_flat (fun _ => rfl) rfl | (simp; done) | (unfold SameO; simp only [hx1]; done) | exact rfl)
      · rw [no true (by unfold isLet; rw [decide_eq_false (by omega), decide_eq_false (by omega)]; rfl)]
        exact stepXS_ok kC_ok (ni_hi0 ls tb i k q x) (by
        simp only [z0]
        repeat' (first | exact allNil | refine allCons ?_ ?_ | (with_reducible refine allRp _ ?_ ?_))
        all_goals first | (with_reducible rfl) | exact True.intro | exact ht | exact hT | exact decide_eq_true (by omega) | exact decide_eq_false (by omega) | omega | exact ⟨by omega, by omega⟩ | exact sI_succ k (by omega) | exact sI_succ q (by omega) | exact hxb | exact same_flat (fun _ => rfl) rfl | (simp; done) | (unfold SameO; simp only [hx1]; done) | exact rfl)
    · by_cases h2 : 65 ≤ (x.getD q 0).toNat
      · by_cases h3 : (x.getD q 0).toNat ≤ 90
        · rw [yes (by unfold isLet; rw [decide_eq_true (⟨h2, h3⟩ : 65 ≤ (x.getD q 0).toNat ∧ (x.getD q 0).toNat ≤ 90), Bool.or_true])]
          exact stepXS_ok kC_ok (ni_gr0 ls tb i k q x) (by
        simp only [z0]
        repeat' (first | exact allNil | refine allCons ?_ ?_ | (with_reducible refine allRp _ ?_ ?_))
        all_goals first | (with_reducible rfl) | exact True.intro | exact ht | exact hT | exact decide_eq_true (by omega) | exact decide_eq_false (by omega) | omega | exact ⟨by omega, by omega⟩ | exact sI_succ k (by omega) | exact sI_succ q (by omega) | exact hxb | exact same_flat (fun _ => rfl) rfl | (simp; done) | (unfold SameO; simp only [hx1]; done) | exact rfl)
        · rw [no true (by unfold isLet; rw [decide_eq_false (by omega), decide_eq_false (by omega)]; rfl)]
          exact stepXS_ok kC_ok (ni_mid0 ls tb i k q x) (by
        simp only [z0]
        repeat' (first | exact allNil | refine allCons ?_ ?_ | (with_reducible refine allRp _ ?_ ?_))
        all_goals first | (with_reducible rfl) | exact True.intro | exact ht | exact hT | exact decide_eq_true (by omega) | exact decide_eq_false (by omega) | omega | exact ⟨by omega, by omega⟩ | exact sI_succ k (by omega) | exact sI_succ q (by omega) | exact hxb | exact same_flat (fun _ => rfl) rfl | (simp; done) | (unfold SameO; simp only [hx1]; done) | exact rfl)
      · rw [no true (by unfold isLet; rw [decide_eq_false (by omega), decide_eq_false (by omega)]; rfl)]
        exact stepXS_ok kC_ok (ni_lo0 ls tb i k q x) (by
        simp only [z0]
        repeat' (first | exact allNil | refine allCons ?_ ?_ | (with_reducible refine allRp _ ?_ ?_))
        all_goals first | (with_reducible rfl) | exact True.intro | exact ht | exact hT | exact decide_eq_true (by omega) | exact decide_eq_false (by omega) | omega | exact ⟨by omega, by omega⟩ | exact sI_succ k (by omega) | exact sI_succ q (by omega) | exact hxb | exact same_flat (fun _ => rfl) rfl | (simp; done) | (unfold SameO; simp only [hx1]; done) | exact rfl)

theorem nj_loop0 (ls : List (List UInt8)) (tb : List Bool) (i : Nat) : ∀ (r p : List UInt8) (k : Nat), p.length + r.length ≤ 1000000 → k + r.length ≤ 1000000000 →
    EvXL Try.prog 0 (loopAt Try.prog 16 12) ((ncH0 ls tb i k p.length (p ++ r)).st 0) (.exit 2) ((ncK0 ls tb i (k + r.length) (p ++ twL tb k r)).st 0)
  | [], p, k, hx, hk => by
    simp only [List.append_nil, List.length_nil, Nat.add_zero, twL]
    exact EvXL.last (stepXS_ok kC_ok (ni_end0 ls tb i k p.length p) (by
      repeat' (first | exact allNil | refine allCons ?_ ?_ | (with_reducible refine allRp _ ?_ ?_))
      all_goals first | (with_reducible rfl) | exact decide_eq_false (by omega) | exact same_flat (fun _ => rfl) rfl | exact rfl)) (by simp)
  | c :: r, p, k, hx, hk => by
    rw [List.length_cons] at hx hk
    have h := nj_step0 ls tb i k p.length (p ++ c :: r) (by simp) (by simp; omega) (by omega)
    rw [getD_pre, set_pre] at h
    have ih := nj_loop0 ls tb i r (p ++ [twC (tb.getD k false) c]) (k + 1) (by simp; omega) (by omega)
    have e1 : (p ++ [twC (tb.getD k false) c]).length = p.length + 1 := by simp
    have e2 : k + 1 + r.length = k + (c :: r).length := by simp; omega
    have e3 : p ++ [twC (tb.getD k false) c] ++ twL tb (k + 1) r = p ++ twL tb k (c :: r) := by simp [twL]
    rw [e1, e2, e3] at ih
    exact EvXL.step h ih

theorem nj_step1 (ls : List (List UInt8)) (tb : List Bool) (i k q : Nat) (x : List UInt8) (m : List (List UInt8)) (hq : q < x.length) (hxl : x.length ≤ 1000000) (hk : k ≤ 1000000000) :
    EvX Try.prog 0 (loopAt Try.prog 16 12) ((ncH1 ls tb i k q x m).st 0) .normal ((ncH1 ls tb i (k + 1) (q + 1) (x.set q (twC (tb.getD k false) (x.getD q 0))) m).st 0) := by
  have hc := (x.getD q 0).toNat_lt
  obtain ⟨hx1, hx2, hx3⟩ := xor_c (x.getD q 0)
  have hxb : isByteAV (AV.val (Value.int IntKind.u8 (bits BinOp.xor IntKind.u8 (((x.getD q 0).toNat : Nat) : Int) (32 : Int)))) := ⟨hx2, hx3⟩
  have z0 : 0 + q = q := Nat.zero_add _
  have hT : True := True.intro
  have no : ∀ t, (t && isLet (x.getD q 0)) = false → x.set q (twC t (x.getD q 0)) = x := fun t h => by
    unfold twC
    rw [h]
    exact set_self x q
  have yes : isLet (x.getD q 0) = true → twC true (x.getD q 0) = x.getD q 0 ^^^ 32 := fun h => by
    unfold twC
    rw [h]
    rfl
  by_cases hl : tb.length ≤ k
  · have ht : tb.getD k false = false := by rw [List.getD_eq_getElem?_getD, List.getElem?_eq_none hl]; rfl
    rw [ht, no false (by simp)]
    exact stepXS_ok kC_ok (ni_far1 ls tb i k q x m) (by
        simp only [z0]
        repeat' (first | exact allNil | refine allCons ?_ ?_ | (with_reducible refine allRp _ ?_ ?_))
        all_goals first | (with_reducible rfl) | exact True.intro | exact ht | exact hT | exact decide_eq_true (by omega) | exact decide_eq_false (by omega) | omega | exact ⟨by omega, by omega⟩ | exact sI_succ k (by omega) | exact sI_succ q (by omega) | exact hxb | exact same_flat (fun _ => rfl) rfl | (simp; done) | (unfold SameO; simp only [hx1]; done) | exact rfl)
  cases ht : tb.getD k false with
  | false =>
    rw [no false (by simp)]
    exact stepXS_ok kC_ok (ni_no1 ls tb i k q x m) (by
        simp only [z0]
        repeat' (first | exact allNil | refine allCons ?_ ?_ | (with_reducible refine allRp _ ?_ ?_))
        all_goals first | (with_reducible rfl) | exact True.intro | exact ht | exact hT | exact decide_eq_true (by omega) | exact decide_eq_false (by omega) | omega | exact ⟨by omega, by omega⟩ | exact sI_succ k (by omega) | exact sI_succ q (by omega) | exact hxb | exact same_flat (fun _ => rfl) rfl | (simp; done) | (unfold SameO; simp only [hx1]; done) | exact rfl)
  | true =>
    by_cases h1 : 97 ≤ (x.getD q 0).toNat
    · by_cases h2 : (x.getD q 0).toNat ≤ 122
      · rw [yes (by unfold isLet; rw [decide_eq_true (⟨h1, h2⟩ : _ ∧ _)]; rfl)]
        exact stepXS_ok kC_ok (ni_sm1 ls tb i k q x m) (by
        simp only [z0]
        repeat' (first | exact allNil | refine allCons ?_ ?_ | (with_reducible refine allRp _ ?_ ?_))
        all_goals first | (with_reducible rfl) | exact True.intro | exact ht | exact hT | exact decide_eq_true (by omega) | exact decide_eq_false (by omega) | omega | exact ⟨by omega, by omega⟩ | exact sI_succ k (by omega) | exact sI_succ q (by omega) | exact hxb | exact same_flat (fun _ => rfl) rfl | (simp; done) | (unfold SameO; simp only [hx1]; done) | exact rfl)
      · rw [no true (by unfold isLet; rw [decide_eq_false (by omega), decide_eq_false (by omega)]; rfl)]
        exact stepXS_ok kC_ok (ni_hi1 ls tb i k q x m) (by
        simp only [z0]
        repeat' (first | exact allNil | refine allCons ?_ ?_ | (with_reducible refine allRp _ ?_ ?_))
        all_goals first | (with_reducible rfl) | exact True.intro | exact ht | exact hT | exact decide_eq_true (by omega) | exact decide_eq_false (by omega) | omega | exact ⟨by omega, by omega⟩ | exact sI_succ k (by omega) | exact sI_succ q (by omega) | exact hxb | exact same_flat (fun _ => rfl) rfl | (simp; done) | (unfold SameO; simp only [hx1]; done) | exact rfl)
    · by_cases h2 : 65 ≤ (x.getD q 0).toNat
      · by_cases h3 : (x.getD q 0).toNat ≤ 90
        · rw [yes (by unfold isLet; rw [decide_eq_true (⟨h2, h3⟩ : 65 ≤ (x.getD q 0).toNat ∧ (x.getD q 0).toNat ≤ 90), Bool.or_true])]
          exact stepXS_ok kC_ok (ni_gr1 ls tb i k q x m) (by
        simp only [z0]
        repeat' (first | exact allNil | refine allCons ?_ ?_ | (with_reducible refine allRp _ ?_ ?_))
        all_goals first | (with_reducible rfl) | exact True.intro | exact ht | exact hT | exact decide_eq_true (by omega) | exact decide_eq_false (by omega) | omega | exact ⟨by omega, by omega⟩ | exact sI_succ k (by omega) | exact sI_succ q (by omega) | exact hxb | exact same_flat (fun _ => rfl) rfl | (simp; done) | (unfold SameO; simp only [hx1]; done) | exact rfl)
        · rw [no true (by unfold isLet; rw [decide_eq_false (by omega), decide_eq_false (by omega)]; rfl)]
          exact stepXS_ok kC_ok (ni_mid1 ls tb i k q x m) (by
        simp only [z0]
        repeat' (first | exact allNil | refine allCons ?_ ?_ | (with_reducible refine allRp _ ?_ ?_))
        all_goals first | (with_reducible rfl) | exact True.intro | exact ht | exact hT | exact decide_eq_true (by omega) | exact decide_eq_false (by omega) | omega | exact ⟨by omega, by omega⟩ | exact sI_succ k (by omega) | exact sI_succ q (by omega) | exact hxb | exact same_flat (fun _ => rfl) rfl | (simp; done) | (unfold SameO; simp only [hx1]; done) | exact rfl)
      · rw [no true (by unfold isLet; rw [decide_eq_false (by omega), decide_eq_false (by omega)]; rfl)]
        exact stepXS_ok kC_ok (ni_lo1 ls tb i k q x m) (by
        simp only [z0]
        repeat' (first | exact allNil | refine allCons ?_ ?_ | (with_reducible refine allRp _ ?_ ?_))
        all_goals first | (with_reducible rfl) | exact True.intro | exact ht | exact hT | exact decide_eq_true (by omega) | exact decide_eq_false (by omega) | omega | exact ⟨by omega, by omega⟩ | exact sI_succ k (by omega) | exact sI_succ q (by omega) | exact hxb | exact same_flat (fun _ => rfl) rfl | (simp; done) | (unfold SameO; simp only [hx1]; done) | exact rfl)

theorem nj_loop1 (ls : List (List UInt8)) (tb : List Bool) (i : Nat) (m : List (List UInt8)) : ∀ (r p : List UInt8) (k : Nat), p.length + r.length ≤ 1000000 → k + r.length ≤ 1000000000 →
    EvXL Try.prog 0 (loopAt Try.prog 16 12) ((ncH1 ls tb i k p.length (p ++ r) m).st 0) (.exit 2) ((ncK1 ls tb i (k + r.length) (p ++ twL tb k r) m).st 0)
  | [], p, k, hx, hk => by
    simp only [List.append_nil, List.length_nil, Nat.add_zero, twL]
    exact EvXL.last (stepXS_ok kC_ok (ni_end1 ls tb i k p.length p m) (by
      repeat' (first | exact allNil | refine allCons ?_ ?_ | (with_reducible refine allRp _ ?_ ?_))
      all_goals first | (with_reducible rfl) | exact decide_eq_false (by omega) | exact same_flat (fun _ => rfl) rfl | exact rfl)) (by simp)
  | c :: r, p, k, hx, hk => by
    rw [List.length_cons] at hx hk
    have h := nj_step1 ls tb i k p.length (p ++ c :: r) m (by simp) (by simp; omega) (by omega)
    rw [getD_pre, set_pre] at h
    have ih := nj_loop1 ls tb i m r (p ++ [twC (tb.getD k false) c]) (k + 1) (by simp; omega) (by omega)
    have e1 : (p ++ [twC (tb.getD k false) c]).length = p.length + 1 := by simp
    have e2 : k + 1 + r.length = k + (c :: r).length := by simp; omega
    have e3 : p ++ [twC (tb.getD k false) c] ++ twL tb (k + 1) r = p ++ twL tb k (c :: r) := by simp [twL]
    rw [e1, e2, e3] at ih
    exact EvXL.step h ih


theorem no_loop (ls : List (List UInt8)) (tb : List Bool) (hT : ls.length ≤ 200 ∧ ∀ s ∈ ls, s.length ≤ 300) : ∀ (rest : List (List UInt8)) (i k : Nat) (m : List (List UInt8)), ls.drop i = rest → i ≤ ls.length → k ≤ 1000 * i → m.length = i →
    EvXL Try.prog 0 (loopAt Try.prog 16 8) ((ncG1 ls tb i k m).st 0) (.exit 0) ((ncE1 ls (m ++ twN tb k rest)).st 0)
  | [], i, k, m, h, hil, hk, hm => by
    have hi : ls.length ≤ i := by simpa using h
    simp only [twN, List.append_nil]
    exact EvXL.last (stepXS_ok kC_ok (no_end1 ls tb i k m) (by
      repeat' (first | exact allNil | refine allCons ?_ ?_ | (with_reducible refine allRp _ ?_ ?_))
      all_goals first | (with_reducible rfl) | exact decide_eq_false (by omega) | exact same_flat (fun _ => rfl) rfl)) (by simp)
  | s :: r, i, k, m, h, hil, hk, hm => by
    obtain ⟨hi, hg, hr⟩ := dropStep h
    have h2 := hT.1
    have hsl : s.length ≤ 300 := hT.2 s (List.mem_of_mem_drop (h ▸ List.mem_cons_self ..))
    have hin := nj_loop1 ls tb i m s [] k (by simp; omega) (by omega)
    simp only [List.nil_append, List.length_nil] at hin
    have e : m ++ twN tb k (s :: r) = (m ++ [twL tb k s]) ++ twN tb (k + s.length) r := by simp [twN]
    have et : List.take (twL tb k s).length (twL tb k s) = twL tb k s := List.take_of_length_le (Nat.le_refl _)
    rw [e]
    refine EvXL.step (stepXS_ok kC_ok (no_step1 ls tb i k (k + s.length) (twL tb k s) m) ?_) (no_loop ls tb hT r (i + 1) (k + s.length) _ hr (by omega) (by omega) (by simp [hm]))
    rw [hg, et]
    repeat' (first | exact allNil | refine allCons ?_ ?_ | (with_reducible refine allRp _ ?_ ?_))
    all_goals first | (with_reducible rfl) | exact hin | exact decide_eq_true (by omega) | exact sI_succ i (by omega) | omega | exact same_flat (fun _ => rfl) rfl | exact same_flat (fun _ => rfl) (by simp [rowsL, sStr]) | (simp [rowsL]; done) | exact rfl | (simp; done)

theorem nameCases_walk (ls : List (List UInt8)) (tb : List Bool) : ∃ L' nx', ACall Try.prog 16 [vS ls, vB tb] [] 0 (.val (.bool true)) L' nx' := by
  show ∃ L' nx', ACall Try.prog 16 [vS ls, vT tb] [] 0 (.val (.bool true)) L' nx'
  have ea := lsOf_vS ls
  unfold vS sStr at ea
  cases hla : longN ls with
  | true =>
    refine ⟨_, _, outXS_ok kC_ok (nc20_long ls tb) ?_⟩
    simp only [ea]
    repeat' (first | exact allNil | refine allCons ?_ ?_ | (with_reducible refine allRp _ ?_ ?_))
    all_goals first | exact hla | exact True.intro | (with_reducible rfl)
  | false =>
    have hk := lsK_of hla
    have hT := longN_k hla
    have h200 := hT.1
    by_cases h0 : ls = []
    · subst h0
      have hl : EvXL Try.prog 0 (loopAt Try.prog 16 8) ((ncG0 [] tb 0 0).st 0) (.exit 0) ((ncE0 []).st 0) := EvXL.last (stepXS_ok kC_ok (no_end0 [] tb 0 0) (by
        repeat' (first | exact allNil | refine allCons ?_ ?_ | (with_reducible refine allRp _ ?_ ?_))
        all_goals first | (with_reducible rfl) | exact rfl)) (by simp)
      have h1 : sameN ([] : List (List UInt8)) [] = true := rfl
      have htx : txtP [[AV.val (Value.string { data := #[(120 : UInt8)] })]] := txtP_rows [[120]]
      have hn : lsK [] := ⟨by simp, fun i => by simp⟩
      have h := outXS_ok kC_ok (nc20_nil [] tb) (by
        simp only [ea]
        repeat' (first | exact allNil | refine allCons ?_ ?_ | (with_reducible refine allRp _ ?_ ?_))
        all_goals first | (with_reducible rfl) | exact hl | exact hla | exact hk | exact hn | exact h1 | exact True.intro | exact ⟨htx, rfl, Nat.le_refl _⟩ | exact ⟨htx, True.intro, True.intro⟩ | exact ⟨htx, True.intro, Nat.le_refl _⟩ | exact rfl)
      simp only [ea] at h
      exact ⟨_, _, h⟩
    · obtain ⟨s, r, rfl⟩ : ∃ s r, ls = s :: r := by cases ls with | nil => exact absurd rfl h0 | cons s r => exact ⟨s, r, rfl⟩
      have hsl : s.length ≤ 300 := hT.2 s (List.mem_cons_self ..)
      have hin := nj_loop0 (s :: r) tb 0 s [] 0 (by simp; omega) (by omega)
      simp only [List.nil_append, List.length_nil, Nat.zero_add] at hin
      have et : List.take (twL tb 0 s).length (twL tb 0 s) = twL tb 0 s := List.take_of_length_le (Nat.le_refl _)
      have hg : (s :: r).getD 0 [] = s := rfl
      have hl : EvXL Try.prog 0 (loopAt Try.prog 16 8) ((ncG0 (s :: r) tb 0 0).st 0) (.exit 0) ((ncE1 (s :: r) (twN tb 0 (s :: r))).st 0) := by
        have e : twN tb 0 (s :: r) = [twL tb 0 s] ++ twN tb s.length r := by simp [twN]
        rw [e]
        refine EvXL.step (EvX.flat (G := ncG1r (s :: r) tb 1 s.length [twL tb 0 s]) (G' := ncG1 (s :: r) tb 1 s.length [twL tb 0 s]) ?_ rfl rfl rfl ⟨rfl, objFlat_eqv .., trivial⟩) (no_loop (s :: r) tb hT r 1 s.length [twL tb 0 s] rfl (by simp) (by omega) rfl)
        refine stepXS_ok kC_ok (no_step0 (s :: r) tb 0 0 s.length (twL tb 0 s)) ?_
        rw [hg, et]
        repeat' (first | exact allNil | refine allCons ?_ ?_ | (with_reducible refine allRp _ ?_ ?_))
        all_goals first | (with_reducible rfl) | exact hin | exact decide_eq_true (by simp) | omega | exact rfl | (simp; done)
      generalize hm : twN tb 0 (s :: r) = m at hl
      obtain ⟨s1, s2, s3⟩ := twN_same tb (s :: r) 0
      rw [hm] at s1 s2 s3
      have hmk : lsK m := by
        have hmm := twN_mem tb 300 (s :: r) 0 hT.2
        rw [hm] at hmm
        refine ⟨by omega, fun i => ?_⟩
        rw [List.getD_eq_getElem?_getD]
        by_cases hi : i < m.length
        · rw [List.getElem?_eq_getElem hi, Option.getD_some]
          have := hmm _ (List.getElem_mem hi)
          omega
        · rw [List.getElem?_eq_none (by omega)]
          simp
      have e120 : rowsL m ++ [[AV.val (Value.string { data := #[(120 : UInt8)] })]] = rowsL (m ++ [[120]]) := by simp [rowsL, sStr]
      have hlen : m.length + 1 = (m ++ [[120]]).length := by simp
      have htp := txtP_take m
      have htp2 := txtP_take (m ++ [[120]])
      have hs : sameN (s :: r) (m ++ [[120]]) = false := sameN_len _ _ (by rw [← hlen]; omega)
      have hrl : (rowsL m).length = m.length := by simp [rowsL]
      have h := outXS_ok kC_ok (nc20_ok (s :: r) tb m) (by
        simp only [ea, e120, txtL_take]
        repeat' (first | exact allNil | refine allCons ?_ ?_ | (with_reducible refine allRp _ ?_ ?_))
        all_goals first | (with_reducible rfl) | exact hl | exact hla | exact hk | exact hmk | exact s1 | exact s2 | exact True.intro | exact htp | exact ⟨htp.1, True.intro, htp.2.2⟩ | (rw [hlen]; exact htp2) | (rw [hlen]; exact ⟨htp2.1, True.intro, htp2.2.2⟩) | exact hrl | omega | exact rfl)
      simp only [ea, e120] at h
      rw [hlen] at h
      simp only [txtL_take, hs] at h
      exact ⟨_, _, h⟩
end Go.Proofs.Ytmilcpejchjleaa
