/- Several texts in one: Bo0, BoRun, Bo. -/
import Derived.Test.YtmilcpejchjleaaMsa

/- A name's text that is read: words, and what the loops' heads say. -/
namespace Go.Proofs.Ytmilcpejchjleaa
open Go.RowKit

/-- so many digits, read -/
def digN : Nat → List UInt8 → Nat → Option Nat
  | 0, _, n => some n
  | _ + 1, [], _ => none
  | k + 1, d :: r, n => if 48 ≤ d.toNat ∧ d.toNat ≤ 57 then digN k r (10 * n + (d.toNat - 48)) else none
def byB (r : List UInt8) : Bool := match digN 3 r 0 with | some n => decide (n < 256) | none => false
def byC (r : List UInt8) : Nat := match digN 3 r 0 with | some n => n % 256 | none => 0
/-- a text, cut into labels -/
def cutF : Nat → List UInt8 → List UInt8 → List (List UInt8) → Option (List (List UInt8) × List UInt8)
  | 0, _, b, l => some (l, b)
  | _ + 1, [], b, l => some (l, b)
  | k + 1, c :: r, b, l => if c.toNat = 46 then cutF k r [] (l ++ [b]) else if c.toNat = 92 then (if byB r = true then cutF k (r.drop 3) (b ++ [UInt8.ofNat (byC r)]) l else none) else cutF k r (b ++ [c]) l
def cutW (s : List UInt8) : Option (List (List UInt8) × List UInt8) := cutF s.length s [] []

def boG (s : List UInt8) (k n : Nat) : GoalX := { len := 35, opn := [(0, sStr s), (9, sI k), (4, sI n)] }
def boE (n : Nat) : GoalX := { len := 35, opn := [(4, sI n)] }
def boN : GoalX := { len := 35, tms := [(2, .val (.int .u8 0)), (3, .val (.bool false))] }
def boL (s : List UInt8) (n : Nat) : LoopX := { ids := [], G := boG s 0 0, ex := .exit 0, E := boE n }
def boR (s : List UInt8) : LoopX := { ids := [], G := boG s 0 0, ex := .ret, E := boN }

def kByteOf : Inl := fun g xs L nx =>
  if g = 118 then
    match xs with
    | [x] => if L.all (fun q => decide (q.1 < nx)) = true then some (.tup [.val (.int .u8 (byC (strB [x]) : Nat)), .val (.bool (byB (strB [x])))], L, nx + 8, [x = sStr (strB [x]), (strB [x]).length ≤ 1000000000]) else none
    | _ => none
  else none

def laG00 (s : List UInt8) (i : Nat) : GoalX := { len := 54, tms := [(4, nilS), (5, nilS)], opn := [(0, sStr s), (6, sI i)] }
def laG01 (s : List UInt8) (i : Nat) (b : List UInt8) : GoalX := { len := 54, tms := [(4, nilS)], opn := [(0, sStr s), (6, sI i), (5, .sl 0 0 b.length none)], oob := [(0, puO b)], k := 1 }
def laG10 (s : List UInt8) (i : Nat) (l : List (List UInt8)) : GoalX := { len := 54, tms := [(5, nilS)], opn := [(0, sStr s), (6, sI i), (4, .sl 0 0 l.length none)], oob := [(0, objFlat 9 1 (rowsL l))], k := 1 }
def laG10r (s : List UInt8) (i : Nat) (l : List (List UInt8)) : GoalX := { len := 54, tms := [(5, nilS)], opn := [(0, sStr s), (6, sI i), (4, .sl 0 0 l.length none)], oob := [(0, objAppR 9 1 (rowsL l))], k := 1 }
def laG11 (s : List UInt8) (i : Nat) (l : List (List UInt8)) (b : List UInt8) : GoalX := { len := 54, opn := [(0, sStr s), (6, sI i), (4, .sl 0 0 l.length none), (5, .sl 1 0 b.length none)], oob := [(0, objFlat 9 1 (rowsL l)), (1, puO b)], k := 2 }
def laE00 : GoalX := { len := 54, tms := [(4, nilS), (5, nilS)] }
def laE01 (b : List UInt8) : GoalX := { len := 54, tms := [(4, nilS)], opn := [(5, .sl 0 0 b.length none)], oob := [(0, puO b)], k := 1 }
def laE10 (l : List (List UInt8)) : GoalX := { len := 54, tms := [(5, nilS)], opn := [(4, .sl 0 0 l.length none)], oob := [(0, objFlat 9 1 (rowsL l))], k := 1 }
def laE11 (l : List (List UInt8)) (b : List UInt8) : GoalX := { len := 54, opn := [(4, .sl 0 0 l.length none), (5, .sl 1 0 b.length none)], oob := [(0, objFlat 9 1 (rowsL l)), (1, puO b)], k := 2 }
def laN : GoalX := { len := 54, tms := [(2, nilS), (3, .val (.bool false))] }
def laL (s : List UInt8) (ex : Ex) (E : GoalX) : LoopX := { ids := [], G := laG00 s 0, ex := ex, E := E }
end Go.Proofs.Ytmilcpejchjleaa

/- A name's text that is read, reckoned. -/
namespace Go.Proofs.Ytmilcpejchjleaa
open Go.RowKit

set_option maxRecDepth 100000 in
theorem bo_short (s : List UInt8) : outXS noneKnown [(118, { br := [(8, true)] })] Try.prog 118 [AV.val (Value.string { data := List.toArray s })] [] 0 [] [] =
   some (AV.tup [AV.val (Value.int IntKind.u8 (0 : Int)), AV.val (Value.bool false)], [], 8,
   [decide ((↑(List.length s) : Int) < (3 : Int)) = true]) := by kernel_rfl

set_option maxRecDepth 100000 in
theorem bo_ok (s : List UInt8) (n : Nat) : outXS noneKnown [(118, { br := [(8, false)] })] Try.prog 118 [AV.val (Value.string { data := List.toArray s })] [] 0 [] [(5, boL s n)] =
   some (AV.tup [AV.val (Value.int IntKind.u8 (IntKind.wrap IntKind.u8 (↑n : Int))), AV.val (Value.bool (decide ((↑n : Int) < (256 : Int))))], [], 6,
   [decide ((↑(List.length s) : Int) < (3 : Int)) = false,
   AV.val (Value.string { data := List.toArray s }) = AV.val (Value.string { data := List.toArray s }),
   AV.val (Value.int IntKind.i64 (0 : Int)) = AV.val (Value.int IntKind.i64 (0 : Int)),
   AV.val (Value.int IntKind.i64 (0 : Int)) = AV.val (Value.int IntKind.i64 (0 : Int)),
   EvXL Try.prog 0 (loopAt Try.prog 118 5) (GoalX.st (LoopX.G (boL s n)) 0) (LoopX.ex (boL s n)) (GoalX.st (LoopX.E (boL s n)) 0)]) := by kernel_rfl

set_option maxRecDepth 100000 in
theorem bo_bad (s : List UInt8) : outXS noneKnown [(118, { br := [(8, false)] })] Try.prog 118 [AV.val (Value.string { data := List.toArray s })] [] 0 [] [(5, boR s)] =
   some (AV.tup [AV.val (Value.int IntKind.u8 (0 : Int)), AV.val (Value.bool false)], [], 0,
   [decide ((↑(List.length s) : Int) < (3 : Int)) = false,
   AV.val (Value.string { data := List.toArray s }) = AV.val (Value.string { data := List.toArray s }),
   AV.val (Value.int IntKind.i64 (0 : Int)) = AV.val (Value.int IntKind.i64 (0 : Int)),
   AV.val (Value.int IntKind.i64 (0 : Int)) = AV.val (Value.int IntKind.i64 (0 : Int)),
   EvXL Try.prog 0 (loopAt Try.prog 118 5) (GoalX.st (LoopX.G (boR s)) 0) (LoopX.ex (boR s)) (GoalX.st (LoopX.E (boR s)) 0)]) := by kernel_rfl

set_option maxRecDepth 100000 in
theorem bo_step (s : List UInt8) (k : Nat) (n : Nat) : stepXS noneKnown [(118, { op := [(7, 9, .br false)], gd := [(7, 5, false), (7, 6, false), (7, 7, false), (7, 8, false)], br := [(10, true), (21, false)], ob := [(7, 2), (7, 7), (9, 4)] })] Try.prog 118 5 (boG s k n) (boG s (k + (1 : Nat)) ((10 : Nat) * n + (UInt8.toNat (List.getD s k (0 : UInt8)) - (48 : Nat)))) [] 0 [] =
   some (.normal,
   [decide ((↑k : Int) < (3 : Int)) = true,
   (0 : Int) ≤ (↑k : Int) ∧ k < List.length s,
   decide ((↑(UInt8.toNat (List.getD s k (0 : UInt8))) : Int) < (48 : Int)) = false,
   decide ((↑(UInt8.toNat (List.getD s k (0 : UInt8))) : Int) < (48 : Int)) = false,
   decide ((↑(UInt8.toNat (List.getD s k (0 : UInt8))) : Int) < (48 : Int)) = false,
   (0 : Int) ≤ (↑k : Int) ∧ k < List.length s,
   decide ((↑(UInt8.toNat (List.getD s k (0 : UInt8))) : Int) < (48 : Int)) = false,
   decide ((↑(UInt8.toNat (List.getD s k (0 : UInt8))) : Int) < (48 : Int)) = false,
   decide ((↑(UInt8.toNat (List.getD s k (0 : UInt8))) : Int) > (57 : Int)) = false,
   (0 : Int) ≤ (↑k : Int) ∧ k < List.length s,
   AV.val (Value.string { data := List.toArray s }) = AV.val (Value.string { data := List.toArray s }),
   AV.val (Value.int IntKind.i64 (IntKind.wrap IntKind.i64 ((↑k : Int) + (1 : Int)))) = AV.val (Value.int IntKind.i64 (↑(k + (1 : Nat)) : Int)),
   AV.val (Value.int IntKind.i64 (IntKind.wrap IntKind.i64 (IntKind.wrap IntKind.i64 ((10 : Int) * (↑n : Int)) + IntKind.wrap IntKind.i64 (IntKind.wrap IntKind.u8 ((↑(UInt8.toNat (List.getD s k (0 : UInt8))) : Int) - (48 : Int)))))) = AV.val (Value.int IntKind.i64 (↑((10 : Nat) * n + (UInt8.toNat (List.getD s k (0 : UInt8)) - (48 : Nat))) : Int))]) := by kernel_rfl

set_option maxRecDepth 100000 in
theorem bo_lo (s : List UInt8) (k : Nat) (n : Nat) : stepXS noneKnown [(118, { op := [(7, 9, .br true)], gd := [(7, 5, true), (7, 6, true), (7, 7, true), (7, 8, true)], br := [(10, true)], ob := [(7, 2)] })] Try.prog 118 5 (boG s k n) (boN) [] 0 [] =
   some (.ret,
   [decide ((↑k : Int) < (3 : Int)) = true,
   (0 : Int) ≤ (↑k : Int) ∧ k < List.length s,
   decide ((↑(UInt8.toNat (List.getD s k (0 : UInt8))) : Int) < (48 : Int)) = true,
   decide ((↑(UInt8.toNat (List.getD s k (0 : UInt8))) : Int) < (48 : Int)) = true,
   decide ((↑(UInt8.toNat (List.getD s k (0 : UInt8))) : Int) < (48 : Int)) = true,
   decide ((↑(UInt8.toNat (List.getD s k (0 : UInt8))) : Int) < (48 : Int)) = true,
   decide ((↑(UInt8.toNat (List.getD s k (0 : UInt8))) : Int) < (48 : Int)) = true]) := by kernel_rfl

set_option maxRecDepth 100000 in
theorem bo_hi (s : List UInt8) (k : Nat) (n : Nat) : stepXS noneKnown [(118, { op := [(7, 9, .br false)], gd := [(7, 5, false), (7, 6, false), (7, 7, false), (7, 8, false)], br := [(10, true), (21, true)], ob := [(7, 2), (7, 7)] })] Try.prog 118 5 (boG s k n) (boN) [] 0 [] =
   some (.ret,
   [decide ((↑k : Int) < (3 : Int)) = true,
   (0 : Int) ≤ (↑k : Int) ∧ k < List.length s,
   decide ((↑(UInt8.toNat (List.getD s k (0 : UInt8))) : Int) < (48 : Int)) = false,
   decide ((↑(UInt8.toNat (List.getD s k (0 : UInt8))) : Int) < (48 : Int)) = false,
   decide ((↑(UInt8.toNat (List.getD s k (0 : UInt8))) : Int) < (48 : Int)) = false,
   (0 : Int) ≤ (↑k : Int) ∧ k < List.length s,
   decide ((↑(UInt8.toNat (List.getD s k (0 : UInt8))) : Int) < (48 : Int)) = false,
   decide ((↑(UInt8.toNat (List.getD s k (0 : UInt8))) : Int) < (48 : Int)) = false,
   decide ((↑(UInt8.toNat (List.getD s k (0 : UInt8))) : Int) > (57 : Int)) = true]) := by kernel_rfl

set_option maxRecDepth 100000 in
theorem bo_end (s : List UInt8) (k : Nat) (n : Nat) : stepXS noneKnown [(118, { br := [(10, false)] })] Try.prog 118 5 (boG s k n) (boE n) [] 0 [] =
   some (.exit 0,
   [decide ((↑k : Int) < (3 : Int)) = false,
   AV.val (Value.int IntKind.i64 (↑n : Int)) = AV.val (Value.int IntKind.i64 (↑n : Int))]) := by kernel_rfl

set_option maxRecDepth 100000 in
theorem la_dot00 (s : List UInt8) (i : Nat) : stepXS kByteOf [(83, { br := [(12, true), (24, true)], ob := [(6, 2)] })] Try.prog 83 4 (laG00 s i) (laG10r s (i + (1 : Nat)) [[]]) [(13 : Nat)] 0 [] =
   some (.normal,
   [decide ((↑i : Int) < (↑(List.length s) : Int)) = true,
   (0 : Int) ≤ (↑i : Int) ∧ i < List.length s,
   ((↑(UInt8.toNat (List.getD s i (0 : UInt8))) : Int) == (46 : Int)) = true,
   AV.val (Value.string { data := List.toArray s }) = AV.val (Value.string { data := List.toArray s }),
   AV.val (Value.int IntKind.i64 (IntKind.wrap IntKind.i64 ((↑i : Int) + (1 : Int)))) = AV.val (Value.int IntKind.i64 (↑(i + (1 : Nat)) : Int)),
   AV.sl 13 (0 : Nat) (1 : Nat) none = AV.sl (13 : Nat) (0 : Nat) (1 : Nat) none,
   SameO (some { t := (9 : Nat), sz := (1 : Nat), exact := false, fz := false, body := Body.rows [[AV.val (Value.string { data := #[] })]] }) { t := (9 : Nat), sz := (1 : Nat), exact := false, fz := false, body := Body.rows [[AV.val (Value.string { data := #[] })]] }]) := by kernel_rfl

set_option maxRecDepth 100000 in
theorem la_esc00 (s : List UInt8) (i : Nat) : stepXS kByteOf [(83, { br := [(12, true), (24, false), (31, true), (42, false)], ob := [(6, 2), (12, 3), (15, 2)] })] Try.prog 83 4 (laG00 s i) (laG01 s (i + (4 : Nat)) [UInt8.ofNat (byC (List.drop (i + (1 : Nat)) s))]) [(34 : Nat)] 0 [] =
   some (.normal,
   [decide ((↑i : Int) < (↑(List.length s) : Int)) = true,
   (0 : Int) ≤ (↑i : Int) ∧ i < List.length s,
   ((↑(UInt8.toNat (List.getD s i (0 : UInt8))) : Int) == (46 : Int)) = false,
   ((↑(UInt8.toNat (List.getD s i (0 : UInt8))) : Int) == (92 : Int)) = true,
   (0 : Int) ≤ IntKind.wrap IntKind.i64 ((↑i : Int) + (1 : Int)),
   (0 : Int) ≤ (↑(List.length s) : Int),
   Int.toNat (IntKind.wrap IntKind.i64 ((↑i : Int) + (1 : Int))) ≤ List.length s ∧ List.length s ≤ List.length s,
   AV.val (Value.string (ByteArray.extract { data := List.toArray s } (Int.toNat (IntKind.wrap IntKind.i64 ((↑i : Int) + (1 : Int)))) (List.length s))) = AV.val (Value.string { data := List.toArray (strB [AV.val (Value.string (ByteArray.extract { data := List.toArray s } (Int.toNat (IntKind.wrap IntKind.i64 ((↑i : Int) + (1 : Int)))) (List.length s)))]) }),
   List.length (strB [AV.val (Value.string (ByteArray.extract { data := List.toArray s } (Int.toNat (IntKind.wrap IntKind.i64 ((↑i : Int) + (1 : Int)))) (List.length s)))]) ≤ (1000000000 : Nat),
   (!byB (strB [AV.val (Value.string (ByteArray.extract { data := List.toArray s } (Int.toNat (IntKind.wrap IntKind.i64 ((↑i : Int) + (1 : Int)))) (List.length s)))])) = false,
   ∀ (x : AV), x ∈ [AV.val (Value.int IntKind.u8 (↑(byC (strB [AV.val (Value.string (ByteArray.extract { data := List.toArray s } (Int.toNat (IntKind.wrap IntKind.i64 ((↑i : Int) + (1 : Int)))) (List.length s)))])) : Int))] → isByteAV x,
   AV.val (Value.string { data := List.toArray s }) = AV.val (Value.string { data := List.toArray s }),
   AV.val (Value.int IntKind.i64 (IntKind.wrap IntKind.i64 (IntKind.wrap IntKind.i64 ((↑i : Int) + (3 : Int)) + (1 : Int)))) = AV.val (Value.int IntKind.i64 (↑(i + (4 : Nat)) : Int)),
   AV.sl 34 (0 : Nat) (1 : Nat) none = AV.sl (34 : Nat) (0 : Nat) (1 : Nat) none,
   SameO (some { t := (5 : Nat), sz := (1 : Nat), exact := false, fz := false, body := Body.bytes [UInt8.ofNat (byC (strB [AV.val (Value.string (ByteArray.extract { data := List.toArray s } (Int.toNat (IntKind.wrap IntKind.i64 ((↑i : Int) + (1 : Int)))) (List.length s)))]))] }) { t := (5 : Nat), sz := (1 : Nat), exact := false, fz := false, body := Body.bytes [UInt8.ofNat (byC (List.drop (i + (1 : Nat)) s))] }]) := by kernel_rfl

set_option maxRecDepth 100000 in
theorem la_bad00 (s : List UInt8) (i : Nat) : stepXS kByteOf [(83, { br := [(12, true), (24, false), (31, true), (42, true)], ob := [(6, 2), (12, 3)] })] Try.prog 83 4 (laG00 s i) (laN) [] 0 [] =
   some (.ret,
   [decide ((↑i : Int) < (↑(List.length s) : Int)) = true,
   (0 : Int) ≤ (↑i : Int) ∧ i < List.length s,
   ((↑(UInt8.toNat (List.getD s i (0 : UInt8))) : Int) == (46 : Int)) = false,
   ((↑(UInt8.toNat (List.getD s i (0 : UInt8))) : Int) == (92 : Int)) = true,
   (0 : Int) ≤ IntKind.wrap IntKind.i64 ((↑i : Int) + (1 : Int)),
   (0 : Int) ≤ (↑(List.length s) : Int),
   Int.toNat (IntKind.wrap IntKind.i64 ((↑i : Int) + (1 : Int))) ≤ List.length s ∧ List.length s ≤ List.length s,
   AV.val (Value.string (ByteArray.extract { data := List.toArray s } (Int.toNat (IntKind.wrap IntKind.i64 ((↑i : Int) + (1 : Int)))) (List.length s))) = AV.val (Value.string { data := List.toArray (strB [AV.val (Value.string (ByteArray.extract { data := List.toArray s } (Int.toNat (IntKind.wrap IntKind.i64 ((↑i : Int) + (1 : Int)))) (List.length s)))]) }),
   List.length (strB [AV.val (Value.string (ByteArray.extract { data := List.toArray s } (Int.toNat (IntKind.wrap IntKind.i64 ((↑i : Int) + (1 : Int)))) (List.length s)))]) ≤ (1000000000 : Nat),
   (!byB (strB [AV.val (Value.string (ByteArray.extract { data := List.toArray s } (Int.toNat (IntKind.wrap IntKind.i64 ((↑i : Int) + (1 : Int)))) (List.length s)))])) = true]) := by kernel_rfl

set_option maxRecDepth 100000 in
theorem la_chr00 (s : List UInt8) (i : Nat) : stepXS kByteOf [(83, { br := [(12, true), (24, false), (31, false)], ob := [(6, 2), (7, 3), (7, 4)] })] Try.prog 83 4 (laG00 s i) (laG01 s (i + (1 : Nat)) [List.getD s i (0 : UInt8)]) [(16 : Nat)] 0 [] =
   some (.normal,
   [decide ((↑i : Int) < (↑(List.length s) : Int)) = true,
   (0 : Int) ≤ (↑i : Int) ∧ i < List.length s,
   ((↑(UInt8.toNat (List.getD s i (0 : UInt8))) : Int) == (46 : Int)) = false,
   ((↑(UInt8.toNat (List.getD s i (0 : UInt8))) : Int) == (92 : Int)) = false,
   (0 : Int) ≤ (↑i : Int) ∧ i < List.length s,
   ∀ (x : AV), x ∈ [AV.val (Value.int IntKind.u8 (↑(UInt8.toNat (List.getD s i (0 : UInt8))) : Int))] → isByteAV x,
   AV.val (Value.string { data := List.toArray s }) = AV.val (Value.string { data := List.toArray s }),
   AV.val (Value.int IntKind.i64 (IntKind.wrap IntKind.i64 ((↑i : Int) + (1 : Int)))) = AV.val (Value.int IntKind.i64 (↑(i + (1 : Nat)) : Int)),
   AV.sl 16 (0 : Nat) (1 : Nat) none = AV.sl (16 : Nat) (0 : Nat) (1 : Nat) none,
   SameO (some { t := (5 : Nat), sz := (1 : Nat), exact := false, fz := false, body := Body.bytes [UInt8.ofNat (UInt8.toNat (List.getD s i (0 : UInt8)))] }) { t := (5 : Nat), sz := (1 : Nat), exact := false, fz := false, body := Body.bytes [List.getD s i (0 : UInt8)] }]) := by kernel_rfl

set_option maxRecDepth 100000 in
theorem la_end00 (s : List UInt8) (i : Nat) : stepXS kByteOf [(83, { br := [(12, false)] })] Try.prog 83 4 (laG00 s i) (laE00) [] 0 [] =
   some (.exit 0,
   [decide ((↑i : Int) < (↑(List.length s) : Int)) = false]) := by kernel_rfl

set_option maxRecDepth 100000 in
theorem la_ok00 (s : List UInt8) : outXS kByteOf [] Try.prog 83 [AV.val (Value.string { data := List.toArray s })] [] 0 [(4 : Nat)] [(4, laL s (Ex.exit (0 : Nat)) laE00)] =
   some (AV.tup [AV.sl 4 (0 : Nat) (1 : Nat) none, AV.val (Value.bool true)], [(4, { t := (9 : Nat), sz := (1 : Nat), exact := false, fz := false, body := Body.rows [[AV.val (Value.string { data := #[] })]] })], 7,
   [AV.val (Value.string { data := List.toArray s }) = AV.val (Value.string { data := List.toArray s }),
   AV.val (Value.int IntKind.i64 (0 : Int)) = AV.val (Value.int IntKind.i64 (0 : Int)),
   EvXL Try.prog 0 (loopAt Try.prog 83 4) (GoalX.st (LoopX.G (laL s (Ex.exit (0 : Nat)) laE00)) 0) (LoopX.ex (laL s (Ex.exit (0 : Nat)) laE00)) (GoalX.st (LoopX.E (laL s (Ex.exit (0 : Nat)) laE00)) 0)]) := by kernel_rfl

set_option maxRecDepth 100000 in
theorem la_dot01 (s : List UInt8) (i : Nat) (b : List UInt8) : stepXS kByteOf [(83, { br := [(12, true), (24, true)], ob := [(6, 2), (9, 2)] })] Try.prog 83 4 (laG01 s i b) (laG10r s (i + (1 : Nat)) [b]) [(14 : Nat)] 0 [] =
   some (.normal,
   [decide ((↑i : Int) < (↑(List.length s) : Int)) = true,
   (0 : Int) ≤ (↑i : Int) ∧ i < List.length s,
   ((↑(UInt8.toNat (List.getD s i (0 : UInt8))) : Int) == (46 : Int)) = true,
   (0 : Nat) + List.length b ≤ List.length b,
   AV.val (Value.string { data := List.toArray s }) = AV.val (Value.string { data := List.toArray s }),
   AV.val (Value.int IntKind.i64 (IntKind.wrap IntKind.i64 ((↑i : Int) + (1 : Int)))) = AV.val (Value.int IntKind.i64 (↑(i + (1 : Nat)) : Int)),
   AV.sl 14 (0 : Nat) (1 : Nat) none = AV.sl (14 : Nat) (0 : Nat) (1 : Nat) none,
   SameO (some { t := (9 : Nat), sz := (1 : Nat), exact := false, fz := false, body := Body.rows [[AV.val (Value.string { data := List.toArray (List.take (List.length b) b) })]] }) { t := (9 : Nat), sz := (1 : Nat), exact := false, fz := false, body := Body.rows [[AV.val (Value.string { data := List.toArray b })]] }]) := by kernel_rfl

set_option maxRecDepth 100000 in
theorem la_esc01 (s : List UInt8) (i : Nat) (b : List UInt8) : stepXS kByteOf [(83, { br := [(12, true), (24, false), (31, true), (42, false)], ob := [(6, 2), (12, 3), (15, 2), (15, 3)] })] Try.prog 83 4 (laG01 s i b) (laG01 s (i + (4 : Nat)) (b ++ [UInt8.ofNat (byC (List.drop (i + (1 : Nat)) s))])) [(35 : Nat)] 0 [] =
   some (.normal,
   [decide ((↑i : Int) < (↑(List.length s) : Int)) = true,
   (0 : Int) ≤ (↑i : Int) ∧ i < List.length s,
   ((↑(UInt8.toNat (List.getD s i (0 : UInt8))) : Int) == (46 : Int)) = false,
   ((↑(UInt8.toNat (List.getD s i (0 : UInt8))) : Int) == (92 : Int)) = true,
   (0 : Int) ≤ IntKind.wrap IntKind.i64 ((↑i : Int) + (1 : Int)),
   (0 : Int) ≤ (↑(List.length s) : Int),
   Int.toNat (IntKind.wrap IntKind.i64 ((↑i : Int) + (1 : Int))) ≤ List.length s ∧ List.length s ≤ List.length s,
   AV.val (Value.string (ByteArray.extract { data := List.toArray s } (Int.toNat (IntKind.wrap IntKind.i64 ((↑i : Int) + (1 : Int)))) (List.length s))) = AV.val (Value.string { data := List.toArray (strB [AV.val (Value.string (ByteArray.extract { data := List.toArray s } (Int.toNat (IntKind.wrap IntKind.i64 ((↑i : Int) + (1 : Int)))) (List.length s)))]) }),
   List.length (strB [AV.val (Value.string (ByteArray.extract { data := List.toArray s } (Int.toNat (IntKind.wrap IntKind.i64 ((↑i : Int) + (1 : Int)))) (List.length s)))]) ≤ (1000000000 : Nat),
   (!byB (strB [AV.val (Value.string (ByteArray.extract { data := List.toArray s } (Int.toNat (IntKind.wrap IntKind.i64 ((↑i : Int) + (1 : Int)))) (List.length s)))])) = false,
   ∀ (x : AV), x ∈ [AV.val (Value.int IntKind.u8 (↑(byC (strB [AV.val (Value.string (ByteArray.extract { data := List.toArray s } (Int.toNat (IntKind.wrap IntKind.i64 ((↑i : Int) + (1 : Int)))) (List.length s)))])) : Int))] → isByteAV x,
   (1 : Nat) ≤ (1 : Nat),
   List.length b = List.length b ∧ List.length b + (1 : Nat) ≤ (1000000000 : Nat),
   AV.val (Value.string { data := List.toArray s }) = AV.val (Value.string { data := List.toArray s }),
   AV.val (Value.int IntKind.i64 (IntKind.wrap IntKind.i64 (IntKind.wrap IntKind.i64 ((↑i : Int) + (3 : Int)) + (1 : Int)))) = AV.val (Value.int IntKind.i64 (↑(i + (4 : Nat)) : Int)),
   AV.sl 35 (0 : Nat) (List.length b + (1 : Nat)) none = AV.sl (35 : Nat) (0 : Nat) (List.length (b ++ [UInt8.ofNat (byC (List.drop (i + (1 : Nat)) s))])) none,
   SameO (some { t := (5 : Nat), sz := (1 : Nat), exact := false, fz := false, body := Body.bytes (b ++ [UInt8.ofNat (byC (strB [AV.val (Value.string (ByteArray.extract { data := List.toArray s } (Int.toNat (IntKind.wrap IntKind.i64 ((↑i : Int) + (1 : Int)))) (List.length s)))]))]) }) { t := (5 : Nat), sz := (1 : Nat), exact := false, fz := false, body := Body.bytes (b ++ [UInt8.ofNat (byC (List.drop (i + (1 : Nat)) s))]) }]) := by kernel_rfl

set_option maxRecDepth 100000 in
theorem la_bad01 (s : List UInt8) (i : Nat) (b : List UInt8) : stepXS kByteOf [(83, { br := [(12, true), (24, false), (31, true), (42, true)], ob := [(6, 2), (12, 3)] })] Try.prog 83 4 (laG01 s i b) (laN) [] 0 [] =
   some (.ret,
   [decide ((↑i : Int) < (↑(List.length s) : Int)) = true,
   (0 : Int) ≤ (↑i : Int) ∧ i < List.length s,
   ((↑(UInt8.toNat (List.getD s i (0 : UInt8))) : Int) == (46 : Int)) = false,
   ((↑(UInt8.toNat (List.getD s i (0 : UInt8))) : Int) == (92 : Int)) = true,
   (0 : Int) ≤ IntKind.wrap IntKind.i64 ((↑i : Int) + (1 : Int)),
   (0 : Int) ≤ (↑(List.length s) : Int),
   Int.toNat (IntKind.wrap IntKind.i64 ((↑i : Int) + (1 : Int))) ≤ List.length s ∧ List.length s ≤ List.length s,
   AV.val (Value.string (ByteArray.extract { data := List.toArray s } (Int.toNat (IntKind.wrap IntKind.i64 ((↑i : Int) + (1 : Int)))) (List.length s))) = AV.val (Value.string { data := List.toArray (strB [AV.val (Value.string (ByteArray.extract { data := List.toArray s } (Int.toNat (IntKind.wrap IntKind.i64 ((↑i : Int) + (1 : Int)))) (List.length s)))]) }),
   List.length (strB [AV.val (Value.string (ByteArray.extract { data := List.toArray s } (Int.toNat (IntKind.wrap IntKind.i64 ((↑i : Int) + (1 : Int)))) (List.length s)))]) ≤ (1000000000 : Nat),
   (!byB (strB [AV.val (Value.string (ByteArray.extract { data := List.toArray s } (Int.toNat (IntKind.wrap IntKind.i64 ((↑i : Int) + (1 : Int)))) (List.length s)))])) = true]) := by kernel_rfl

set_option maxRecDepth 100000 in
theorem la_chr01 (s : List UInt8) (i : Nat) (b : List UInt8) : stepXS kByteOf [(83, { br := [(12, true), (24, false), (31, false)], ob := [(6, 2), (7, 3), (7, 4), (7, 5)] })] Try.prog 83 4 (laG01 s i b) (laG01 s (i + (1 : Nat)) (b ++ [List.getD s i (0 : UInt8)])) [(17 : Nat)] 0 [] =
   some (.normal,
   [decide ((↑i : Int) < (↑(List.length s) : Int)) = true,
   (0 : Int) ≤ (↑i : Int) ∧ i < List.length s,
   ((↑(UInt8.toNat (List.getD s i (0 : UInt8))) : Int) == (46 : Int)) = false,
   ((↑(UInt8.toNat (List.getD s i (0 : UInt8))) : Int) == (92 : Int)) = false,
   (0 : Int) ≤ (↑i : Int) ∧ i < List.length s,
   ∀ (x : AV), x ∈ [AV.val (Value.int IntKind.u8 (↑(UInt8.toNat (List.getD s i (0 : UInt8))) : Int))] → isByteAV x,
   (1 : Nat) ≤ (1 : Nat),
   List.length b = List.length b ∧ List.length b + (1 : Nat) ≤ (1000000000 : Nat),
   AV.val (Value.string { data := List.toArray s }) = AV.val (Value.string { data := List.toArray s }),
   AV.val (Value.int IntKind.i64 (IntKind.wrap IntKind.i64 ((↑i : Int) + (1 : Int)))) = AV.val (Value.int IntKind.i64 (↑(i + (1 : Nat)) : Int)),
   AV.sl 17 (0 : Nat) (List.length b + (1 : Nat)) none = AV.sl (17 : Nat) (0 : Nat) (List.length (b ++ [List.getD s i (0 : UInt8)])) none,
   SameO (some { t := (5 : Nat), sz := (1 : Nat), exact := false, fz := false, body := Body.bytes (b ++ [UInt8.ofNat (UInt8.toNat (List.getD s i (0 : UInt8)))]) }) { t := (5 : Nat), sz := (1 : Nat), exact := false, fz := false, body := Body.bytes (b ++ [List.getD s i (0 : UInt8)]) }]) := by kernel_rfl

set_option maxRecDepth 100000 in
theorem la_end01 (s : List UInt8) (i : Nat) (b : List UInt8) : stepXS kByteOf [(83, { br := [(12, false)] })] Try.prog 83 4 (laG01 s i b) (laE01 b) [(0 : Nat)] 0 [] =
   some (.exit 0,
   [decide ((↑i : Int) < (↑(List.length s) : Int)) = false,
   AV.sl (0 : Nat) (0 : Nat) (List.length b) none = AV.sl (0 : Nat) (0 : Nat) (List.length b) none,
   SameO (some { t := (5 : Nat), sz := (1 : Nat), exact := false, fz := false, body := Body.bytes b }) { t := (5 : Nat), sz := (1 : Nat), exact := false, fz := false, body := Body.bytes b }]) := by kernel_rfl

set_option maxRecDepth 100000 in
theorem la_ok01 (s : List UInt8) (b : List UInt8) : outXS kByteOf [(83, { ob := [(17, 2)] })] Try.prog 83 [AV.val (Value.string { data := List.toArray s })] [] 0 [(5 : Nat)] [(4, laL s (Ex.exit (0 : Nat)) (laE01 b))] =
   some (AV.tup [AV.sl 5 (0 : Nat) (1 : Nat) none, AV.val (Value.bool true)], [(5, { t := (9 : Nat), sz := (1 : Nat), exact := false, fz := false, body := Body.rows [[AV.val (Value.string { data := List.toArray (List.take (List.length b) b) })]] })], 8,
   [AV.val (Value.string { data := List.toArray s }) = AV.val (Value.string { data := List.toArray s }),
   AV.val (Value.int IntKind.i64 (0 : Int)) = AV.val (Value.int IntKind.i64 (0 : Int)),
   EvXL Try.prog 0 (loopAt Try.prog 83 4) (GoalX.st (LoopX.G (laL s (Ex.exit (0 : Nat)) (laE01 b))) 0) (LoopX.ex (laL s (Ex.exit (0 : Nat)) (laE01 b))) (GoalX.st (LoopX.E (laL s (Ex.exit (0 : Nat)) (laE01 b))) 0),
   (0 : Nat) + List.length b ≤ List.length b]) := by kernel_rfl

set_option maxRecDepth 100000 in
theorem la_dot10 (s : List UInt8) (i : Nat) (l : List (List UInt8)) : stepXS kByteOf [(83, { br := [(12, true), (24, true)], ob := [(6, 2), (9, 4)] })] Try.prog 83 4 (laG10 s i l) (laG10 s (i + (1 : Nat)) (l ++ [[]])) [(14 : Nat)] 0 [] =
   some (.normal,
   [decide ((↑i : Int) < (↑(List.length s) : Int)) = true,
   (0 : Int) ≤ (↑i : Int) ∧ i < List.length s,
   ((↑(UInt8.toNat (List.getD s i (0 : UInt8))) : Int) == (46 : Int)) = true,
   List.length (rowsL l) = List.length l,
   List.length l + (1 : Nat) ≤ (1000000000 : Nat),
   (List.length l + (1 : Nat)) * (16 : Nat) ≤ (140737488355328 : Nat),
   AV.val (Value.string { data := List.toArray s }) = AV.val (Value.string { data := List.toArray s }),
   AV.val (Value.int IntKind.i64 (IntKind.wrap IntKind.i64 ((↑i : Int) + (1 : Int)))) = AV.val (Value.int IntKind.i64 (↑(i + (1 : Nat)) : Int)),
   AV.sl 14 (0 : Nat) (List.length l + (1 : Nat)) none = AV.sl (14 : Nat) (0 : Nat) (List.length (l ++ [[]])) none,
   SameO (some { t := (9 : Nat), sz := (1 : Nat), exact := false, fz := false, body := Body.flat (rowsL l ++ [[AV.val (Value.string { data := #[] })]]) }) { t := (9 : Nat), sz := (1 : Nat), exact := false, fz := false, body := Body.flat (List.map (fun x => (AV.brecOn_1.go x (AV.ren._f (renX 0 [(14 : Nat)] 20)) (renL._f (renX 0 [(14 : Nat)] 20))).1) (rowsL (l ++ [[]]))) }]) := by kernel_rfl

set_option maxRecDepth 100000 in
theorem la_esc10 (s : List UInt8) (i : Nat) (l : List (List UInt8)) : stepXS kByteOf [(83, { br := [(12, true), (24, false), (31, true), (42, false)], ob := [(6, 2), (12, 3), (15, 2)] })] Try.prog 83 4 (laG10 s i l) (laG11 s (i + (4 : Nat)) l [UInt8.ofNat (byC (List.drop (i + (1 : Nat)) s))]) [(0 : Nat), (35 : Nat)] 0 [] =
   some (.normal,
   [decide ((↑i : Int) < (↑(List.length s) : Int)) = true,
   (0 : Int) ≤ (↑i : Int) ∧ i < List.length s,
   ((↑(UInt8.toNat (List.getD s i (0 : UInt8))) : Int) == (46 : Int)) = false,
   ((↑(UInt8.toNat (List.getD s i (0 : UInt8))) : Int) == (92 : Int)) = true,
   (0 : Int) ≤ IntKind.wrap IntKind.i64 ((↑i : Int) + (1 : Int)),
   (0 : Int) ≤ (↑(List.length s) : Int),
   Int.toNat (IntKind.wrap IntKind.i64 ((↑i : Int) + (1 : Int))) ≤ List.length s ∧ List.length s ≤ List.length s,
   AV.val (Value.string (ByteArray.extract { data := List.toArray s } (Int.toNat (IntKind.wrap IntKind.i64 ((↑i : Int) + (1 : Int)))) (List.length s))) = AV.val (Value.string { data := List.toArray (strB [AV.val (Value.string (ByteArray.extract { data := List.toArray s } (Int.toNat (IntKind.wrap IntKind.i64 ((↑i : Int) + (1 : Int)))) (List.length s)))]) }),
   List.length (strB [AV.val (Value.string (ByteArray.extract { data := List.toArray s } (Int.toNat (IntKind.wrap IntKind.i64 ((↑i : Int) + (1 : Int)))) (List.length s)))]) ≤ (1000000000 : Nat),
   (!byB (strB [AV.val (Value.string (ByteArray.extract { data := List.toArray s } (Int.toNat (IntKind.wrap IntKind.i64 ((↑i : Int) + (1 : Int)))) (List.length s)))])) = false,
   ∀ (x : AV), x ∈ [AV.val (Value.int IntKind.u8 (↑(byC (strB [AV.val (Value.string (ByteArray.extract { data := List.toArray s } (Int.toNat (IntKind.wrap IntKind.i64 ((↑i : Int) + (1 : Int)))) (List.length s)))])) : Int))] → isByteAV x,
   AV.val (Value.string { data := List.toArray s }) = AV.val (Value.string { data := List.toArray s }),
   AV.val (Value.int IntKind.i64 (IntKind.wrap IntKind.i64 (IntKind.wrap IntKind.i64 ((↑i : Int) + (3 : Int)) + (1 : Int)))) = AV.val (Value.int IntKind.i64 (↑(i + (4 : Nat)) : Int)),
   AV.sl (0 : Nat) (0 : Nat) (List.length l) none = AV.sl (0 : Nat) (0 : Nat) (List.length l) none,
   AV.sl 35 (0 : Nat) (1 : Nat) none = AV.sl (35 : Nat) (0 : Nat) (1 : Nat) none,
   SameO (some { t := (9 : Nat), sz := (1 : Nat), exact := false, fz := false, body := Body.flat (rowsL l) }) { t := (9 : Nat), sz := (1 : Nat), exact := false, fz := false, body := Body.flat (List.map (fun x => (AV.brecOn_1.go x (AV.ren._f (renX 0 [(0 : Nat), (35 : Nat)] 43)) (renL._f (renX 0 [(0 : Nat), (35 : Nat)] 43))).1) (rowsL l)) },
   SameO (some { t := (5 : Nat), sz := (1 : Nat), exact := false, fz := false, body := Body.bytes [UInt8.ofNat (byC (strB [AV.val (Value.string (ByteArray.extract { data := List.toArray s } (Int.toNat (IntKind.wrap IntKind.i64 ((↑i : Int) + (1 : Int)))) (List.length s)))]))] }) { t := (5 : Nat), sz := (1 : Nat), exact := false, fz := false, body := Body.bytes [UInt8.ofNat (byC (List.drop (i + (1 : Nat)) s))] }]) := by kernel_rfl

set_option maxRecDepth 100000 in
theorem la_bad10 (s : List UInt8) (i : Nat) (l : List (List UInt8)) : stepXS kByteOf [(83, { br := [(12, true), (24, false), (31, true), (42, true)], ob := [(6, 2), (12, 3)] })] Try.prog 83 4 (laG10 s i l) (laN) [] 0 [] =
   some (.ret,
   [decide ((↑i : Int) < (↑(List.length s) : Int)) = true,
   (0 : Int) ≤ (↑i : Int) ∧ i < List.length s,
   ((↑(UInt8.toNat (List.getD s i (0 : UInt8))) : Int) == (46 : Int)) = false,
   ((↑(UInt8.toNat (List.getD s i (0 : UInt8))) : Int) == (92 : Int)) = true,
   (0 : Int) ≤ IntKind.wrap IntKind.i64 ((↑i : Int) + (1 : Int)),
   (0 : Int) ≤ (↑(List.length s) : Int),
   Int.toNat (IntKind.wrap IntKind.i64 ((↑i : Int) + (1 : Int))) ≤ List.length s ∧ List.length s ≤ List.length s,
   AV.val (Value.string (ByteArray.extract { data := List.toArray s } (Int.toNat (IntKind.wrap IntKind.i64 ((↑i : Int) + (1 : Int)))) (List.length s))) = AV.val (Value.string { data := List.toArray (strB [AV.val (Value.string (ByteArray.extract { data := List.toArray s } (Int.toNat (IntKind.wrap IntKind.i64 ((↑i : Int) + (1 : Int)))) (List.length s)))]) }),
   List.length (strB [AV.val (Value.string (ByteArray.extract { data := List.toArray s } (Int.toNat (IntKind.wrap IntKind.i64 ((↑i : Int) + (1 : Int)))) (List.length s)))]) ≤ (1000000000 : Nat),
   (!byB (strB [AV.val (Value.string (ByteArray.extract { data := List.toArray s } (Int.toNat (IntKind.wrap IntKind.i64 ((↑i : Int) + (1 : Int)))) (List.length s)))])) = true]) := by kernel_rfl

set_option maxRecDepth 100000 in
theorem la_chr10 (s : List UInt8) (i : Nat) (l : List (List UInt8)) : stepXS kByteOf [(83, { br := [(12, true), (24, false), (31, false)], ob := [(6, 2), (7, 3), (7, 4)] })] Try.prog 83 4 (laG10 s i l) (laG11 s (i + (1 : Nat)) l [List.getD s i (0 : UInt8)]) [(0 : Nat), (17 : Nat)] 0 [] =
   some (.normal,
   [decide ((↑i : Int) < (↑(List.length s) : Int)) = true,
   (0 : Int) ≤ (↑i : Int) ∧ i < List.length s,
   ((↑(UInt8.toNat (List.getD s i (0 : UInt8))) : Int) == (46 : Int)) = false,
   ((↑(UInt8.toNat (List.getD s i (0 : UInt8))) : Int) == (92 : Int)) = false,
   (0 : Int) ≤ (↑i : Int) ∧ i < List.length s,
   ∀ (x : AV), x ∈ [AV.val (Value.int IntKind.u8 (↑(UInt8.toNat (List.getD s i (0 : UInt8))) : Int))] → isByteAV x,
   AV.val (Value.string { data := List.toArray s }) = AV.val (Value.string { data := List.toArray s }),
   AV.val (Value.int IntKind.i64 (IntKind.wrap IntKind.i64 ((↑i : Int) + (1 : Int)))) = AV.val (Value.int IntKind.i64 (↑(i + (1 : Nat)) : Int)),
   AV.sl (0 : Nat) (0 : Nat) (List.length l) none = AV.sl (0 : Nat) (0 : Nat) (List.length l) none,
   AV.sl 17 (0 : Nat) (1 : Nat) none = AV.sl (17 : Nat) (0 : Nat) (1 : Nat) none,
   SameO (some { t := (9 : Nat), sz := (1 : Nat), exact := false, fz := false, body := Body.flat (rowsL l) }) { t := (9 : Nat), sz := (1 : Nat), exact := false, fz := false, body := Body.flat (List.map (fun x => (AV.brecOn_1.go x (AV.ren._f (renX 0 [(0 : Nat), (17 : Nat)] 22)) (renL._f (renX 0 [(0 : Nat), (17 : Nat)] 22))).1) (rowsL l)) },
   SameO (some { t := (5 : Nat), sz := (1 : Nat), exact := false, fz := false, body := Body.bytes [UInt8.ofNat (UInt8.toNat (List.getD s i (0 : UInt8)))] }) { t := (5 : Nat), sz := (1 : Nat), exact := false, fz := false, body := Body.bytes [List.getD s i (0 : UInt8)] }]) := by kernel_rfl

set_option maxRecDepth 100000 in
theorem la_end10 (s : List UInt8) (i : Nat) (l : List (List UInt8)) : stepXS kByteOf [(83, { br := [(12, false)] })] Try.prog 83 4 (laG10 s i l) (laE10 l) [(0 : Nat)] 0 [] =
   some (.exit 0,
   [decide ((↑i : Int) < (↑(List.length s) : Int)) = false,
   AV.sl (0 : Nat) (0 : Nat) (List.length l) none = AV.sl (0 : Nat) (0 : Nat) (List.length l) none,
   SameO (some { t := (9 : Nat), sz := (1 : Nat), exact := false, fz := false, body := Body.flat (rowsL l) }) { t := (9 : Nat), sz := (1 : Nat), exact := false, fz := false, body := Body.flat (List.map (fun x => (AV.brecOn_1.go x (AV.ren._f (renX 0 [(0 : Nat)] 5)) (renL._f (renX 0 [(0 : Nat)] 5))).1) (rowsL l)) }]) := by kernel_rfl

set_option maxRecDepth 100000 in
theorem la_ok10 (s : List UInt8) (l : List (List UInt8)) : outXS kByteOf [(83, { ob := [(17, 4)] })] Try.prog 83 [AV.val (Value.string { data := List.toArray s })] [] 0 [(5 : Nat)] [(4, laL s (Ex.exit (0 : Nat)) (laE10 l))] =
   some (AV.tup [AV.sl 5 (0 : Nat) (List.length l + (1 : Nat)) none, AV.val (Value.bool true)], [(5, { t := (9 : Nat), sz := (1 : Nat), exact := false, fz := false, body := Body.flat (rowsL l ++ [[AV.val (Value.string { data := #[] })]]) })], 8,
   [AV.val (Value.string { data := List.toArray s }) = AV.val (Value.string { data := List.toArray s }),
   AV.val (Value.int IntKind.i64 (0 : Int)) = AV.val (Value.int IntKind.i64 (0 : Int)),
   EvXL Try.prog 0 (loopAt Try.prog 83 4) (GoalX.st (LoopX.G (laL s (Ex.exit (0 : Nat)) (laE10 l))) 0) (LoopX.ex (laL s (Ex.exit (0 : Nat)) (laE10 l))) (GoalX.st (LoopX.E (laL s (Ex.exit (0 : Nat)) (laE10 l))) 0),
   List.length (rowsL l) = List.length l,
   List.length l + (1 : Nat) ≤ (1000000000 : Nat),
   (List.length l + (1 : Nat)) * (16 : Nat) ≤ (140737488355328 : Nat)]) := by kernel_rfl

set_option maxRecDepth 100000 in
theorem la_dot11 (s : List UInt8) (i : Nat) (l : List (List UInt8)) (b : List UInt8) : stepXS kByteOf [(83, { br := [(12, true), (24, true)], ob := [(6, 2), (9, 2), (9, 4)] })] Try.prog 83 4 (laG11 s i l b) (laG10 s (i + (1 : Nat)) (l ++ [b])) [(15 : Nat)] 0 [] =
   some (.normal,
   [decide ((↑i : Int) < (↑(List.length s) : Int)) = true,
   (0 : Int) ≤ (↑i : Int) ∧ i < List.length s,
   ((↑(UInt8.toNat (List.getD s i (0 : UInt8))) : Int) == (46 : Int)) = true,
   (0 : Nat) + List.length b ≤ List.length b,
   List.length (rowsL l) = List.length l,
   List.length l + (1 : Nat) ≤ (1000000000 : Nat),
   (List.length l + (1 : Nat)) * (16 : Nat) ≤ (140737488355328 : Nat),
   AV.val (Value.string { data := List.toArray s }) = AV.val (Value.string { data := List.toArray s }),
   AV.val (Value.int IntKind.i64 (IntKind.wrap IntKind.i64 ((↑i : Int) + (1 : Int)))) = AV.val (Value.int IntKind.i64 (↑(i + (1 : Nat)) : Int)),
   AV.sl 15 (0 : Nat) (List.length l + (1 : Nat)) none = AV.sl (15 : Nat) (0 : Nat) (List.length (l ++ [b])) none,
   SameO (some { t := (9 : Nat), sz := (1 : Nat), exact := false, fz := false, body := Body.flat (rowsL l ++ [[AV.val (Value.string { data := List.toArray (List.take (List.length b) b) })]]) }) { t := (9 : Nat), sz := (1 : Nat), exact := false, fz := false, body := Body.flat (List.map (fun x => (AV.brecOn_1.go x (AV.ren._f (renX 0 [(15 : Nat)] 21)) (renL._f (renX 0 [(15 : Nat)] 21))).1) (rowsL (l ++ [b]))) }]) := by kernel_rfl

set_option maxRecDepth 100000 in
theorem la_esc11 (s : List UInt8) (i : Nat) (l : List (List UInt8)) (b : List UInt8) : stepXS kByteOf [(83, { br := [(12, true), (24, false), (31, true), (42, false)], ob := [(6, 2), (12, 3), (15, 2), (15, 3)] })] Try.prog 83 4 (laG11 s i l b) (laG11 s (i + (4 : Nat)) l (b ++ [UInt8.ofNat (byC (List.drop (i + (1 : Nat)) s))])) [(0 : Nat), (36 : Nat)] 0 [] =
   some (.normal,
   [decide ((↑i : Int) < (↑(List.length s) : Int)) = true,
   (0 : Int) ≤ (↑i : Int) ∧ i < List.length s,
   ((↑(UInt8.toNat (List.getD s i (0 : UInt8))) : Int) == (46 : Int)) = false,
   ((↑(UInt8.toNat (List.getD s i (0 : UInt8))) : Int) == (92 : Int)) = true,
   (0 : Int) ≤ IntKind.wrap IntKind.i64 ((↑i : Int) + (1 : Int)),
   (0 : Int) ≤ (↑(List.length s) : Int),
   Int.toNat (IntKind.wrap IntKind.i64 ((↑i : Int) + (1 : Int))) ≤ List.length s ∧ List.length s ≤ List.length s,
   AV.val (Value.string (ByteArray.extract { data := List.toArray s } (Int.toNat (IntKind.wrap IntKind.i64 ((↑i : Int) + (1 : Int)))) (List.length s))) = AV.val (Value.string { data := List.toArray (strB [AV.val (Value.string (ByteArray.extract { data := List.toArray s } (Int.toNat (IntKind.wrap IntKind.i64 ((↑i : Int) + (1 : Int)))) (List.length s)))]) }),
   List.length (strB [AV.val (Value.string (ByteArray.extract { data := List.toArray s } (Int.toNat (IntKind.wrap IntKind.i64 ((↑i : Int) + (1 : Int)))) (List.length s)))]) ≤ (1000000000 : Nat),
   (!byB (strB [AV.val (Value.string (ByteArray.extract { data := List.toArray s } (Int.toNat (IntKind.wrap IntKind.i64 ((↑i : Int) + (1 : Int)))) (List.length s)))])) = false,
   ∀ (x : AV), x ∈ [AV.val (Value.int IntKind.u8 (↑(byC (strB [AV.val (Value.string (ByteArray.extract { data := List.toArray s } (Int.toNat (IntKind.wrap IntKind.i64 ((↑i : Int) + (1 : Int)))) (List.length s)))])) : Int))] → isByteAV x,
   (1 : Nat) ≤ (1 : Nat),
   List.length b = List.length b ∧ List.length b + (1 : Nat) ≤ (1000000000 : Nat),
   AV.val (Value.string { data := List.toArray s }) = AV.val (Value.string { data := List.toArray s }),
   AV.val (Value.int IntKind.i64 (IntKind.wrap IntKind.i64 (IntKind.wrap IntKind.i64 ((↑i : Int) + (3 : Int)) + (1 : Int)))) = AV.val (Value.int IntKind.i64 (↑(i + (4 : Nat)) : Int)),
   AV.sl (0 : Nat) (0 : Nat) (List.length l) none = AV.sl (0 : Nat) (0 : Nat) (List.length l) none,
   AV.sl 36 (0 : Nat) (List.length b + (1 : Nat)) none = AV.sl (36 : Nat) (0 : Nat) (List.length (b ++ [UInt8.ofNat (byC (List.drop (i + (1 : Nat)) s))])) none,
   SameO (some { t := (9 : Nat), sz := (1 : Nat), exact := false, fz := false, body := Body.flat (rowsL l) }) { t := (9 : Nat), sz := (1 : Nat), exact := false, fz := false, body := Body.flat (List.map (fun x => (AV.brecOn_1.go x (AV.ren._f (renX 0 [(0 : Nat), (36 : Nat)] 44)) (renL._f (renX 0 [(0 : Nat), (36 : Nat)] 44))).1) (rowsL l)) },
   SameO (some { t := (5 : Nat), sz := (1 : Nat), exact := false, fz := false, body := Body.bytes (b ++ [UInt8.ofNat (byC (strB [AV.val (Value.string (ByteArray.extract { data := List.toArray s } (Int.toNat (IntKind.wrap IntKind.i64 ((↑i : Int) + (1 : Int)))) (List.length s)))]))]) }) { t := (5 : Nat), sz := (1 : Nat), exact := false, fz := false, body := Body.bytes (b ++ [UInt8.ofNat (byC (List.drop (i + (1 : Nat)) s))]) }]) := by kernel_rfl

set_option maxRecDepth 100000 in
theorem la_bad11 (s : List UInt8) (i : Nat) (l : List (List UInt8)) (b : List UInt8) : stepXS kByteOf [(83, { br := [(12, true), (24, false), (31, true), (42, true)], ob := [(6, 2), (12, 3)] })] Try.prog 83 4 (laG11 s i l b) (laN) [] 0 [] =
   some (.ret,
   [decide ((↑i : Int) < (↑(List.length s) : Int)) = true,
   (0 : Int) ≤ (↑i : Int) ∧ i < List.length s,
   ((↑(UInt8.toNat (List.getD s i (0 : UInt8))) : Int) == (46 : Int)) = false,
   ((↑(UInt8.toNat (List.getD s i (0 : UInt8))) : Int) == (92 : Int)) = true,
   (0 : Int) ≤ IntKind.wrap IntKind.i64 ((↑i : Int) + (1 : Int)),
   (0 : Int) ≤ (↑(List.length s) : Int),
   Int.toNat (IntKind.wrap IntKind.i64 ((↑i : Int) + (1 : Int))) ≤ List.length s ∧ List.length s ≤ List.length s,
   AV.val (Value.string (ByteArray.extract { data := List.toArray s } (Int.toNat (IntKind.wrap IntKind.i64 ((↑i : Int) + (1 : Int)))) (List.length s))) = AV.val (Value.string { data := List.toArray (strB [AV.val (Value.string (ByteArray.extract { data := List.toArray s } (Int.toNat (IntKind.wrap IntKind.i64 ((↑i : Int) + (1 : Int)))) (List.length s)))]) }),
   List.length (strB [AV.val (Value.string (ByteArray.extract { data := List.toArray s } (Int.toNat (IntKind.wrap IntKind.i64 ((↑i : Int) + (1 : Int)))) (List.length s)))]) ≤ (1000000000 : Nat),
   (!byB (strB [AV.val (Value.string (ByteArray.extract { data := List.toArray s } (Int.toNat (IntKind.wrap IntKind.i64 ((↑i : Int) + (1 : Int)))) (List.length s)))])) = true]) := by kernel_rfl

set_option maxRecDepth 100000 in
theorem la_chr11 (s : List UInt8) (i : Nat) (l : List (List UInt8)) (b : List UInt8) : stepXS kByteOf [(83, { br := [(12, true), (24, false), (31, false)], ob := [(6, 2), (7, 3), (7, 4), (7, 5)] })] Try.prog 83 4 (laG11 s i l b) (laG11 s (i + (1 : Nat)) l (b ++ [List.getD s i (0 : UInt8)])) [(0 : Nat), (18 : Nat)] 0 [] =
   some (.normal,
   [decide ((↑i : Int) < (↑(List.length s) : Int)) = true,
   (0 : Int) ≤ (↑i : Int) ∧ i < List.length s,
   ((↑(UInt8.toNat (List.getD s i (0 : UInt8))) : Int) == (46 : Int)) = false,
   ((↑(UInt8.toNat (List.getD s i (0 : UInt8))) : Int) == (92 : Int)) = false,
   (0 : Int) ≤ (↑i : Int) ∧ i < List.length s,
   ∀ (x : AV), x ∈ [AV.val (Value.int IntKind.u8 (↑(UInt8.toNat (List.getD s i (0 : UInt8))) : Int))] → isByteAV x,
   (1 : Nat) ≤ (1 : Nat),
   List.length b = List.length b ∧ List.length b + (1 : Nat) ≤ (1000000000 : Nat),
   AV.val (Value.string { data := List.toArray s }) = AV.val (Value.string { data := List.toArray s }),
   AV.val (Value.int IntKind.i64 (IntKind.wrap IntKind.i64 ((↑i : Int) + (1 : Int)))) = AV.val (Value.int IntKind.i64 (↑(i + (1 : Nat)) : Int)),
   AV.sl (0 : Nat) (0 : Nat) (List.length l) none = AV.sl (0 : Nat) (0 : Nat) (List.length l) none,
   AV.sl 18 (0 : Nat) (List.length b + (1 : Nat)) none = AV.sl (18 : Nat) (0 : Nat) (List.length (b ++ [List.getD s i (0 : UInt8)])) none,
   SameO (some { t := (9 : Nat), sz := (1 : Nat), exact := false, fz := false, body := Body.flat (rowsL l) }) { t := (9 : Nat), sz := (1 : Nat), exact := false, fz := false, body := Body.flat (List.map (fun x => (AV.brecOn_1.go x (AV.ren._f (renX 0 [(0 : Nat), (18 : Nat)] 23)) (renL._f (renX 0 [(0 : Nat), (18 : Nat)] 23))).1) (rowsL l)) },
   SameO (some { t := (5 : Nat), sz := (1 : Nat), exact := false, fz := false, body := Body.bytes (b ++ [UInt8.ofNat (UInt8.toNat (List.getD s i (0 : UInt8)))]) }) { t := (5 : Nat), sz := (1 : Nat), exact := false, fz := false, body := Body.bytes (b ++ [List.getD s i (0 : UInt8)]) }]) := by kernel_rfl

set_option maxRecDepth 100000 in
theorem la_end11 (s : List UInt8) (i : Nat) (l : List (List UInt8)) (b : List UInt8) : stepXS kByteOf [(83, { br := [(12, false)] })] Try.prog 83 4 (laG11 s i l b) (laE11 l b) [(0 : Nat), (1 : Nat)] 0 [] =
   some (.exit 0,
   [decide ((↑i : Int) < (↑(List.length s) : Int)) = false,
   AV.sl (0 : Nat) (0 : Nat) (List.length l) none = AV.sl (0 : Nat) (0 : Nat) (List.length l) none,
   AV.sl (1 : Nat) (0 : Nat) (List.length b) none = AV.sl (1 : Nat) (0 : Nat) (List.length b) none,
   SameO (some { t := (9 : Nat), sz := (1 : Nat), exact := false, fz := false, body := Body.flat (rowsL l) }) { t := (9 : Nat), sz := (1 : Nat), exact := false, fz := false, body := Body.flat (List.map (fun x => (AV.brecOn_1.go x (AV.ren._f (renX 0 [(0 : Nat), (1 : Nat)] 6)) (renL._f (renX 0 [(0 : Nat), (1 : Nat)] 6))).1) (rowsL l)) },
   SameO (some { t := (5 : Nat), sz := (1 : Nat), exact := false, fz := false, body := Body.bytes b }) { t := (5 : Nat), sz := (1 : Nat), exact := false, fz := false, body := Body.bytes b }]) := by kernel_rfl

set_option maxRecDepth 100000 in
theorem la_ok11 (s : List UInt8) (l : List (List UInt8)) (b : List UInt8) : outXS kByteOf [(83, { ob := [(17, 2), (17, 4)] })] Try.prog 83 [AV.val (Value.string { data := List.toArray s })] [] 0 [(6 : Nat)] [(4, laL s (Ex.exit (0 : Nat)) (laE11 l b))] =
   some (AV.tup [AV.sl 6 (0 : Nat) (List.length l + (1 : Nat)) none, AV.val (Value.bool true)], [(6, { t := (9 : Nat), sz := (1 : Nat), exact := false, fz := false, body := Body.flat (rowsL l ++ [[AV.val (Value.string { data := List.toArray (List.take (List.length b) b) })]]) })], 9,
   [AV.val (Value.string { data := List.toArray s }) = AV.val (Value.string { data := List.toArray s }),
   AV.val (Value.int IntKind.i64 (0 : Int)) = AV.val (Value.int IntKind.i64 (0 : Int)),
   EvXL Try.prog 0 (loopAt Try.prog 83 4) (GoalX.st (LoopX.G (laL s (Ex.exit (0 : Nat)) (laE11 l b))) 0) (LoopX.ex (laL s (Ex.exit (0 : Nat)) (laE11 l b))) (GoalX.st (LoopX.E (laL s (Ex.exit (0 : Nat)) (laE11 l b))) 0),
   (0 : Nat) + List.length b ≤ List.length b,
   List.length (rowsL l) = List.length l,
   List.length l + (1 : Nat) ≤ (1000000000 : Nat),
   (List.length l + (1 : Nat)) * (16 : Nat) ≤ (140737488355328 : Nat)]) := by kernel_rfl

set_option maxRecDepth 100000 in
theorem la_no (s : List UInt8) : outXS kByteOf [] Try.prog 83 [AV.val (Value.string { data := List.toArray s })] [] 0 [] [(4, laL s Ex.ret laN)] =
   some (AV.tup [AV.val (Value.slice none (0 : Nat) (0 : Nat)), AV.val (Value.bool false)], [], 0,
   [AV.val (Value.string { data := List.toArray s }) = AV.val (Value.string { data := List.toArray s }),
   AV.val (Value.int IntKind.i64 (0 : Int)) = AV.val (Value.int IntKind.i64 (0 : Int)),
   EvXL Try.prog 0 (loopAt Try.prog 83 4) (GoalX.st (LoopX.G (laL s Ex.ret laN)) 0) (LoopX.ex (laL s Ex.ret laN)) (GoalX.st (LoopX.E (laL s Ex.ret laN)) 0)]) := by kernel_rfl
end Go.Proofs.Ytmilcpejchjleaa

/- A name's text that is read: what byteOf and labels yield. -/
namespace Go.Proofs.Ytmilcpejchjleaa
open Go.RowKit
set_option linter.unusedSimpArgs false
set_option linter.unusedVariables false

def bnd : Nat → Nat
  | 0 => 999
  | 1 => 99
  | 2 => 9
  | _ => 0
theorem bnd_step {j n d : Nat} (hj : j ≤ 2) (h : n ≤ bnd (j + 1)) (hd : d ≤ 9) : 10 * n + d ≤ bnd j := by
  match j, hj with
  | 0, _ => simp only [bnd] at h ⊢; omega
  | 1, _ => simp only [bnd] at h ⊢; omega
  | 2, _ => simp only [bnd] at h ⊢; omega

theorem digN_some : ∀ (j : Nat) (r : List UInt8) (n m : Nat), digN j r n = some m → j ≤ r.length
  | 0, _, _, _, _ => Nat.zero_le _
  | j + 1, [], _, _, h => by cases h
  | j + 1, d :: r, n, m, h => by
    unfold digN at h
    split at h
    · have := digN_some j r _ m h
      simp only [List.length_cons]; omega
    · cases h
theorem byB_len {r : List UInt8} (h : byB r = true) : 3 ≤ r.length := by
  unfold byB at h
  split at h
  · rename_i n hn; exact digN_some 3 r 0 n hn
  · cases h
theorem byC_lt (r : List UInt8) : byC r < 256 := by
  unfold byC
  split
  · exact Nat.mod_lt _ (by decide)
  · decide

theorem bo_loop (s : List UInt8) (hm : s.length ≤ 1000000000) (h3 : 3 ≤ s.length) : ∀ (j k n : Nat) (r : List UInt8), j + k = 3 → s.drop k = r → n ≤ bnd j →
    EvXL Try.prog 0 (loopAt Try.prog 118 5) ((boG s k n).st 0) (match digN j r n with | some _ => .exit 0 | none => .ret) ((match digN j r n with | some m => boE m | none => boN).st 0)
  | 0, k, n, r, hk, hr, hn => by
    exact EvXL.last (stepXS_ok noneKnown_ok (bo_end s k n) (by
      repeat' (first | exact allNil | refine allCons ?_ ?_ | (with_reducible refine allRp _ ?_ ?_))
      all_goals first | (with_reducible rfl) | exact decide_eq_false (by omega))) (by simp [digN])
  | j + 1, k, n, [], hk, hr, hn => by
    have : s.length ≤ k := by simpa using hr
    omega
  | j + 1, k, n, d :: r, hk, hr, hn => by
    obtain ⟨h1, g1, r1⟩ := dropStepB hr
    have hd := d.toNat_lt
    have hn9 : n ≤ 999 := by
      have : j + 1 = 1 ∨ j + 1 = 2 ∨ j + 1 = 3 := by omega
      rcases this with h | h | h <;> rw [h] at hn <;> simp only [bnd] at hn <;> omega
    unfold digN
    by_cases h : 48 ≤ d.toNat ∧ d.toNat ≤ 57
    · rw [if_pos h]
      refine EvXL.step (stepXS_ok noneKnown_ok (bo_step s k n) ?_) (by
        rw [g1]
        exact bo_loop s hm h3 j (k + 1) _ r (by omega) r1 (bnd_step (by omega) hn (by omega)))
      have w1 : IntKind.wrap IntKind.u8 ((d.toNat : Nat) - (48 : Int)) = ((d.toNat - 48 : Nat) : Int) := by rw [wu8]; omega
      rw [g1, w1, wNat (z := (10 : Int) * (n : Int)) (10 * n) (by omega) (by omega), wNat (z := ((d.toNat - 48 : Nat) : Int)) (d.toNat - 48) (by omega) (by omega), wNat (z := ((10 * n : Nat) : Int) + ((d.toNat - 48 : Nat) : Int)) (10 * n + (d.toNat - 48)) (by omega) (by omega)]
      repeat' (first | exact allNil | refine allCons ?_ ?_ | (with_reducible refine allRp _ ?_ ?_))
      all_goals first | (with_reducible rfl) | exact decide_eq_true (by omega) | exact decide_eq_false (by omega) | exact sI_succ k (by omega) | omega
    · rw [if_neg h]
      by_cases h4 : d.toNat < 48
      · exact EvXL.last (stepXS_ok noneKnown_ok (bo_lo s k n) (by
          rw [g1]
          repeat' (first | exact allNil | refine allCons ?_ ?_ | (with_reducible refine allRp _ ?_ ?_))
          all_goals first | (with_reducible rfl) | exact decide_eq_true (by omega) | exact decide_eq_false (by omega) | omega)) (by simp)
      · exact EvXL.last (stepXS_ok noneKnown_ok (bo_hi s k n) (by
          rw [g1]
          repeat' (first | exact allNil | refine allCons ?_ ?_ | (with_reducible refine allRp _ ?_ ?_))
          all_goals first | (with_reducible rfl) | exact decide_eq_true (by omega) | exact decide_eq_false (by omega) | omega)) (by simp)

theorem byteOf_call (s : List UInt8) (hm : s.length ≤ 1000000000) : ACall Try.prog 118 [sStr s] [] 0 (.tup [.val (.int .u8 (byC s : Nat)), .val (.bool (byB s))]) [] 8 := by
  by_cases h3 : 3 ≤ s.length
  · have hl := bo_loop s hm h3 3 0 0 s rfl rfl (Nat.le_refl _)
    cases hd : digN 3 s 0 with
    | some n =>
      rw [hd] at hl
      have hn := hd
      have e1 : byC s = n % 256 := by unfold byC; rw [hd]
      have e2 : byB s = decide (n < 256) := by unfold byB; rw [hd]
      have e3 : IntKind.wrap IntKind.u8 (n : Int) = ((n % 256 : Nat) : Int) := by rw [wu8]; omega
      have e4 : decide ((n : Int) < (256 : Int)) = decide (n < 256) := by
        by_cases h : n < 256
        · rw [decide_eq_true h, decide_eq_true (by omega)]
        · rw [decide_eq_false h, decide_eq_false (by omega)]
      have h := outXS_ok noneKnown_ok (bo_ok s n) (by
        repeat' (first | exact allNil | refine allCons ?_ ?_ | (with_reducible refine allRp _ ?_ ?_))
        all_goals first | (with_reducible rfl) | exact hl | exact decide_eq_false (by omega))
      rw [e3, e4, ← e1, ← e2] at h
      exact h.upTo (by decide)
    | none =>
      rw [hd] at hl
      have e1 : byC s = 0 := by unfold byC; rw [hd]
      have e2 : byB s = false := by unfold byB; rw [hd]
      have h := outXS_ok noneKnown_ok (bo_bad s) (by
        repeat' (first | exact allNil | refine allCons ?_ ?_ | (with_reducible refine allRp _ ?_ ?_))
        all_goals first | (with_reducible rfl) | exact hl | exact decide_eq_false (by omega))
      rw [e1, e2]
      exact h.upTo (by decide)
  · have e2 : byB s = false := by
      cases hb : byB s with
      | false => rfl
      | true => exact absurd (byB_len hb) h3
    have e1 : byC s = 0 := by
      unfold byC
      split
      · rename_i n hn
        exact absurd (digN_some 3 s 0 n hn) h3
      · rfl
    rw [e1, e2]
    exact (outXS_ok noneKnown_ok (bo_short s) (allCons (decide_eq_true (by omega)) allNil)).upTo (by decide)

theorem kByteOf_ok : InlOk Try.prog kByteOf := by
  intro g xs L nx v L' nx' q h hq
  unfold kByteOf at h
  split at h
  · rename_i hg
    subst hg
    split at h
    · rename_i x
      split at h
      · rename_i hlt
        simp only [Option.some.injEq, Prod.mk.injEq] at h
        obtain ⟨rfl, rfl, rfl, rfl⟩ := h
        have h1 := hq _ (List.mem_cons_self ..)
        have h2 := hq _ (List.mem_cons_of_mem _ (List.mem_cons_self ..))
        refine ⟨?_, by omega⟩
        have h3 := (byteOf_call (strB [x]) h2).fresh' (L := L) (nx := nx) (by rfl) (by rfl) (FrsL.cons (.free fun r => rfl) FrsL.nil) hlt
        rw [← h1] at h3
        exact h3
      · cases h
    · cases h
  · cases h

theorem ext_drop (s : List UInt8) (i : Nat) : ByteArray.extract ⟨s.toArray⟩ i s.length = ⟨(s.drop i).toArray⟩ := by
  apply ByteArray.ext
  rw [ByteArray.data_extract]
  apply Array.ext'
  simp [List.take_of_length_le]

theorem lr_dot00 (s : List UInt8) (hs : s.length ≤ 1000000) (i : Nat) (h1 : i < s.length) (h2 : (s.getD i 0).toNat = 46) : EvX Try.prog 0 (loopAt Try.prog 83 4) ((laG00 s i).st 0) .normal ((laG10r s (i + 1) [[]]).st 0) := by
  refine stepXS_ok kByteOf_ok (la_dot00 s i) ?_
  have hc := (s.getD i 0).toNat_lt
  simp only [wNat (z := (i : Int) + (1 : Int)) (i + 1) (by omega) (by omega), Int.toNat_natCast, UInt8.ofNat_toNat]
  repeat' (first | exact allNil | refine allCons ?_ ?_ | (with_reducible refine allRp _ ?_ ?_))
  all_goals first | (with_reducible rfl) | exact True.intro | exact decide_eq_true (by omega) | exact decide_eq_false (by omega) | omega | exact beq_eq_false_iff_ne.2 (by omega) | exact beq_iff_eq.2 (by omega) | exact same_flat (fun _ => rfl) rfl | exact same_flat (fun _ => rfl) (by simp [rowsL, sStr]) | (intro x hx; rw [List.mem_singleton.1 hx]; exact ⟨by omega, by omega⟩) | (intro x hx; rw [List.mem_singleton.1 hx]; exact ⟨_, rfl⟩) | (intro x hx; rw [List.mem_singleton.1 hx]; simp [isByteAV, wu8]; done) | (intro x hx; rw [List.mem_singleton.1 hx]; simp [isByteAV, wu8]; omega) | (simp [h3]; done) | (simp [rowsL]; done) | (simp [SameO]; done) | (simp; done) | (simp; omega)
theorem lr_esc00 (s : List UInt8) (hs : s.length ≤ 1000000) (i : Nat) (h1 : i < s.length) (h2 : (s.getD i 0).toNat = 92) (h3 : byB (s.drop (i + 1)) = true) : EvX Try.prog 0 (loopAt Try.prog 83 4) ((laG00 s i).st 0) .normal ((laG01 s (i + 4) [UInt8.ofNat (byC (s.drop (i + 1)))]).st 0) := by
  refine stepXS_ok kByteOf_ok (la_esc00 s i) ?_
  have hl3 := byB_len h3
  rw [List.length_drop] at hl3
  have hb3 := byC_lt (s.drop (i + 1))
  have e1 : strB [AV.val (Value.string { data := List.toArray (s.drop (i + 1)) })] = s.drop (i + 1) := strB_s _
  have e2 : ((byC (s.drop (i + 1)) : Nat) : Int) % 256 = ((byC (s.drop (i + 1)) : Nat) : Int) := by omega
  simp only [wNat (z := (i : Int) + (1 : Int)) (i + 1) (by omega) (by omega), wNat (z := (i : Int) + (3 : Int)) (i + 3) (by omega) (by omega), wNat (z := ((i + 3 : Nat) : Int) + (1 : Int)) (i + 4) (by omega) (by omega), Int.toNat_natCast, ext_drop, e1]
  repeat' (first | exact allNil | refine allCons ?_ ?_ | (with_reducible refine allRp _ ?_ ?_))
  all_goals first | (with_reducible rfl) | exact True.intro | exact decide_eq_true (by omega) | exact decide_eq_false (by omega) | omega | exact beq_eq_false_iff_ne.2 (by omega) | exact beq_iff_eq.2 (by omega) | exact same_flat (fun _ => rfl) rfl | exact same_flat (fun _ => rfl) (by simp [rowsL, sStr]) | (intro x hx; rw [List.mem_singleton.1 hx]; exact ⟨by omega, by omega⟩) | (intro x hx; rw [List.mem_singleton.1 hx]; exact ⟨_, rfl⟩) | (intro x hx; rw [List.mem_singleton.1 hx]; simp [isByteAV, wu8]; done) | (intro x hx; rw [List.mem_singleton.1 hx]; simp [isByteAV, wu8]; omega) | (simp [h3]; done) | (simp [rowsL]; done) | (simp [SameO]; done) | (simp; done) | (simp; omega)
theorem lr_bad00 (s : List UInt8) (hs : s.length ≤ 1000000) (i : Nat) (h1 : i < s.length) (h2 : (s.getD i 0).toNat = 92) (h3 : byB (s.drop (i + 1)) = false) : EvX Try.prog 0 (loopAt Try.prog 83 4) ((laG00 s i).st 0) .ret ((laN).st 0) := by
  refine stepXS_ok kByteOf_ok (la_bad00 s i) ?_
  have hb3 := byC_lt (s.drop (i + 1))
  have e1 : strB [AV.val (Value.string { data := List.toArray (s.drop (i + 1)) })] = s.drop (i + 1) := strB_s _
  have e2 : ((byC (s.drop (i + 1)) : Nat) : Int) % 256 = ((byC (s.drop (i + 1)) : Nat) : Int) := by omega
  simp only [wNat (z := (i : Int) + (1 : Int)) (i + 1) (by omega) (by omega), wNat (z := (i : Int) + (3 : Int)) (i + 3) (by omega) (by omega), wNat (z := ((i + 3 : Nat) : Int) + (1 : Int)) (i + 4) (by omega) (by omega), Int.toNat_natCast, ext_drop, e1]
  repeat' (first | exact allNil | refine allCons ?_ ?_ | (with_reducible refine allRp _ ?_ ?_))
  all_goals first | (with_reducible rfl) | exact True.intro | exact decide_eq_true (by omega) | exact decide_eq_false (by omega) | omega | exact beq_eq_false_iff_ne.2 (by omega) | exact beq_iff_eq.2 (by omega) | exact same_flat (fun _ => rfl) rfl | exact same_flat (fun _ => rfl) (by simp [rowsL, sStr]) | (intro x hx; rw [List.mem_singleton.1 hx]; exact ⟨by omega, by omega⟩) | (intro x hx; rw [List.mem_singleton.1 hx]; exact ⟨_, rfl⟩) | (intro x hx; rw [List.mem_singleton.1 hx]; simp [isByteAV, wu8]; done) | (intro x hx; rw [List.mem_singleton.1 hx]; simp [isByteAV, wu8]; omega) | (simp [h3]; done) | (simp [rowsL]; done) | (simp [SameO]; done) | (simp; done) | (simp; omega)
theorem lr_chr00 (s : List UInt8) (hs : s.length ≤ 1000000) (i : Nat) (h1 : i < s.length) (h2 : (s.getD i 0).toNat ≠ 46) (h3 : (s.getD i 0).toNat ≠ 92) : EvX Try.prog 0 (loopAt Try.prog 83 4) ((laG00 s i).st 0) .normal ((laG01 s (i + 1) [s.getD i 0]).st 0) := by
  refine stepXS_ok kByteOf_ok (la_chr00 s i) ?_
  have hc := (s.getD i 0).toNat_lt
  simp only [wNat (z := (i : Int) + (1 : Int)) (i + 1) (by omega) (by omega), Int.toNat_natCast, UInt8.ofNat_toNat]
  repeat' (first | exact allNil | refine allCons ?_ ?_ | (with_reducible refine allRp _ ?_ ?_))
  all_goals first | (with_reducible rfl) | exact True.intro | exact decide_eq_true (by omega) | exact decide_eq_false (by omega) | omega | exact beq_eq_false_iff_ne.2 (by omega) | exact beq_iff_eq.2 (by omega) | exact same_flat (fun _ => rfl) rfl | exact same_flat (fun _ => rfl) (by simp [rowsL, sStr]) | (intro x hx; rw [List.mem_singleton.1 hx]; exact ⟨by omega, by omega⟩) | (intro x hx; rw [List.mem_singleton.1 hx]; exact ⟨_, rfl⟩) | (intro x hx; rw [List.mem_singleton.1 hx]; simp [isByteAV, wu8]; done) | (intro x hx; rw [List.mem_singleton.1 hx]; simp [isByteAV, wu8]; omega) | (simp [h3]; done) | (simp [rowsL]; done) | (simp [SameO]; done) | (simp; done) | (simp; omega)
theorem lr_end00 (s : List UInt8) (hs : s.length ≤ 1000000) (i : Nat) (h1 : s.length ≤ i) : EvX Try.prog 0 (loopAt Try.prog 83 4) ((laG00 s i).st 0) (.exit 0) ((laE00).st 0) := by
  refine stepXS_ok kByteOf_ok (la_end00 s i) ?_
  repeat' (first | exact allNil | refine allCons ?_ ?_ | (with_reducible refine allRp _ ?_ ?_))
  all_goals first | (with_reducible rfl) | exact True.intro | exact decide_eq_true (by omega) | exact decide_eq_false (by omega) | omega | exact beq_eq_false_iff_ne.2 (by omega) | exact beq_iff_eq.2 (by omega) | exact same_flat (fun _ => rfl) rfl | exact same_flat (fun _ => rfl) (by simp [rowsL, sStr]) | (intro x hx; rw [List.mem_singleton.1 hx]; exact ⟨by omega, by omega⟩) | (intro x hx; rw [List.mem_singleton.1 hx]; exact ⟨_, rfl⟩) | (intro x hx; rw [List.mem_singleton.1 hx]; simp [isByteAV, wu8]; done) | (intro x hx; rw [List.mem_singleton.1 hx]; simp [isByteAV, wu8]; omega) | (simp [h3]; done) | (simp [rowsL]; done) | (simp [SameO]; done) | (simp; done) | (simp; omega)
theorem lr_dot01 (s : List UInt8) (hs : s.length ≤ 1000000) (i : Nat) (b : List UInt8) (hbl : b.length ≤ 1000001) (h1 : i < s.length) (h2 : (s.getD i 0).toNat = 46) : EvX Try.prog 0 (loopAt Try.prog 83 4) ((laG01 s i b).st 0) .normal ((laG10r s (i + 1) [b]).st 0) := by
  refine stepXS_ok kByteOf_ok (la_dot01 s i b) ?_
  have hc := (s.getD i 0).toNat_lt
  simp only [wNat (z := (i : Int) + (1 : Int)) (i + 1) (by omega) (by omega), Int.toNat_natCast, UInt8.ofNat_toNat]
  repeat' (first | exact allNil | refine allCons ?_ ?_ | (with_reducible refine allRp _ ?_ ?_))
  all_goals first | (with_reducible rfl) | exact True.intro | exact decide_eq_true (by omega) | exact decide_eq_false (by omega) | omega | exact beq_eq_false_iff_ne.2 (by omega) | exact beq_iff_eq.2 (by omega) | exact same_flat (fun _ => rfl) rfl | exact same_flat (fun _ => rfl) (by simp [rowsL, sStr]) | (intro x hx; rw [List.mem_singleton.1 hx]; exact ⟨by omega, by omega⟩) | (intro x hx; rw [List.mem_singleton.1 hx]; exact ⟨_, rfl⟩) | (intro x hx; rw [List.mem_singleton.1 hx]; simp [isByteAV, wu8]; done) | (intro x hx; rw [List.mem_singleton.1 hx]; simp [isByteAV, wu8]; omega) | (simp [h3]; done) | (simp [rowsL]; done) | (simp [SameO]; done) | (simp; done) | (simp; omega)
theorem lr_esc01 (s : List UInt8) (hs : s.length ≤ 1000000) (i : Nat) (b : List UInt8) (hbl : b.length ≤ 1000001) (h1 : i < s.length) (h2 : (s.getD i 0).toNat = 92) (h3 : byB (s.drop (i + 1)) = true) : EvX Try.prog 0 (loopAt Try.prog 83 4) ((laG01 s i b).st 0) .normal ((laG01 s (i + 4) (b ++ [UInt8.ofNat (byC (s.drop (i + 1)))])).st 0) := by
  refine stepXS_ok kByteOf_ok (la_esc01 s i b) ?_
  have hl3 := byB_len h3
  rw [List.length_drop] at hl3
  have hb3 := byC_lt (s.drop (i + 1))
  have e1 : strB [AV.val (Value.string { data := List.toArray (s.drop (i + 1)) })] = s.drop (i + 1) := strB_s _
  have e2 : ((byC (s.drop (i + 1)) : Nat) : Int) % 256 = ((byC (s.drop (i + 1)) : Nat) : Int) := by omega
  simp only [wNat (z := (i : Int) + (1 : Int)) (i + 1) (by omega) (by omega), wNat (z := (i : Int) + (3 : Int)) (i + 3) (by omega) (by omega), wNat (z := ((i + 3 : Nat) : Int) + (1 : Int)) (i + 4) (by omega) (by omega), Int.toNat_natCast, ext_drop, e1]
  repeat' (first | exact allNil | refine allCons ?_ ?_ | (with_reducible refine allRp _ ?_ ?_))
  all_goals first | (with_reducible rfl) | exact True.intro | exact decide_eq_true (by omega) | exact decide_eq_false (by omega) | omega | exact beq_eq_false_iff_ne.2 (by omega) | exact beq_iff_eq.2 (by omega) | exact same_flat (fun _ => rfl) rfl | exact same_flat (fun _ => rfl) (by simp [rowsL, sStr]) | (intro x hx; rw [List.mem_singleton.1 hx]; exact ⟨by omega, by omega⟩) | (intro x hx; rw [List.mem_singleton.1 hx]; exact ⟨_, rfl⟩) | (intro x hx; rw [List.mem_singleton.1 hx]; simp [isByteAV, wu8]; done) | (intro x hx; rw [List.mem_singleton.1 hx]; simp [isByteAV, wu8]; omega) | (simp [h3]; done) | (simp [rowsL]; done) | (simp [SameO]; done) | (simp; done) | (simp; omega)
theorem lr_bad01 (s : List UInt8) (hs : s.length ≤ 1000000) (i : Nat) (b : List UInt8) (hbl : b.length ≤ 1000001) (h1 : i < s.length) (h2 : (s.getD i 0).toNat = 92) (h3 : byB (s.drop (i + 1)) = false) : EvX Try.prog 0 (loopAt Try.prog 83 4) ((laG01 s i b).st 0) .ret ((laN).st 0) := by
  refine stepXS_ok kByteOf_ok (la_bad01 s i b) ?_
  have hb3 := byC_lt (s.drop (i + 1))
  have e1 : strB [AV.val (Value.string { data := List.toArray (s.drop (i + 1)) })] = s.drop (i + 1) := strB_s _
  have e2 : ((byC (s.drop (i + 1)) : Nat) : Int) % 256 = ((byC (s.drop (i + 1)) : Nat) : Int) := by omega
  simp only [wNat (z := (i : Int) + (1 : Int)) (i + 1) (by omega) (by omega), wNat (z := (i : Int) + (3 : Int)) (i + 3) (by omega) (by omega), wNat (z := ((i + 3 : Nat) : Int) + (1 : Int)) (i + 4) (by omega) (by omega), Int.toNat_natCast, ext_drop, e1]
  repeat' (first | exact allNil | refine allCons ?_ ?_ | (with_reducible refine allRp _ ?_ ?_))
  all_goals first | (with_reducible rfl) | exact True.intro | exact decide_eq_true (by omega) | exact decide_eq_false (by omega) | omega | exact beq_eq_false_iff_ne.2 (by omega) | exact beq_iff_eq.2 (by omega) | exact same_flat (fun _ => rfl) rfl | exact same_flat (fun _ => rfl) (by simp [rowsL, sStr]) | (intro x hx; rw [List.mem_singleton.1 hx]; exact ⟨by omega, by omega⟩) | (intro x hx; rw [List.mem_singleton.1 hx]; exact ⟨_, rfl⟩) | (intro x hx; rw [List.mem_singleton.1 hx]; simp [isByteAV, wu8]; done) | (intro x hx; rw [List.mem_singleton.1 hx]; simp [isByteAV, wu8]; omega) | (simp [h3]; done) | (simp [rowsL]; done) | (simp [SameO]; done) | (simp; done) | (simp; omega)
theorem lr_chr01 (s : List UInt8) (hs : s.length ≤ 1000000) (i : Nat) (b : List UInt8) (hbl : b.length ≤ 1000001) (h1 : i < s.length) (h2 : (s.getD i 0).toNat ≠ 46) (h3 : (s.getD i 0).toNat ≠ 92) : EvX Try.prog 0 (loopAt Try.prog 83 4) ((laG01 s i b).st 0) .normal ((laG01 s (i + 1) (b ++ [s.getD i 0])).st 0) := by
  refine stepXS_ok kByteOf_ok (la_chr01 s i b) ?_
  have hc := (s.getD i 0).toNat_lt
  simp only [wNat (z := (i : Int) + (1 : Int)) (i + 1) (by omega) (by omega), Int.toNat_natCast, UInt8.ofNat_toNat]
  repeat' (first | exact allNil | refine allCons ?_ ?_ | (with_reducible refine allRp _ ?_ ?_))
  all_goals first | (with_reducible rfl) | exact True.intro | exact decide_eq_true (by omega) | exact decide_eq_false (by omega) | omega | exact beq_eq_false_iff_ne.2 (by omega) | exact beq_iff_eq.2 (by omega) | exact same_flat (fun _ => rfl) rfl | exact same_flat (fun _ => rfl) (by simp [rowsL, sStr]) | (intro x hx; rw [List.mem_singleton.1 hx]; exact ⟨by omega, by omega⟩) | (intro x hx; rw [List.mem_singleton.1 hx]; exact ⟨_, rfl⟩) | (intro x hx; rw [List.mem_singleton.1 hx]; simp [isByteAV, wu8]; done) | (intro x hx; rw [List.mem_singleton.1 hx]; simp [isByteAV, wu8]; omega) | (simp [h3]; done) | (simp [rowsL]; done) | (simp [SameO]; done) | (simp; done) | (simp; omega)
theorem lr_end01 (s : List UInt8) (hs : s.length ≤ 1000000) (i : Nat) (b : List UInt8) (hbl : b.length ≤ 1000001) (h1 : s.length ≤ i) : EvX Try.prog 0 (loopAt Try.prog 83 4) ((laG01 s i b).st 0) (.exit 0) ((laE01 b).st 0) := by
  refine stepXS_ok kByteOf_ok (la_end01 s i b) ?_
  repeat' (first | exact allNil | refine allCons ?_ ?_ | (with_reducible refine allRp _ ?_ ?_))
  all_goals first | (with_reducible rfl) | exact True.intro | exact decide_eq_true (by omega) | exact decide_eq_false (by omega) | omega | exact beq_eq_false_iff_ne.2 (by omega) | exact beq_iff_eq.2 (by omega) | exact same_flat (fun _ => rfl) rfl | exact same_flat (fun _ => rfl) (by simp [rowsL, sStr]) | (intro x hx; rw [List.mem_singleton.1 hx]; exact ⟨by omega, by omega⟩) | (intro x hx; rw [List.mem_singleton.1 hx]; exact ⟨_, rfl⟩) | (intro x hx; rw [List.mem_singleton.1 hx]; simp [isByteAV, wu8]; done) | (intro x hx; rw [List.mem_singleton.1 hx]; simp [isByteAV, wu8]; omega) | (simp [h3]; done) | (simp [rowsL]; done) | (simp [SameO]; done) | (simp; done) | (simp; omega)
theorem lr_dot10 (s : List UInt8) (hs : s.length ≤ 1000000) (i : Nat) (l : List (List UInt8)) (hll : l.length ≤ 1000001) (h1 : i < s.length) (h2 : (s.getD i 0).toNat = 46) : EvX Try.prog 0 (loopAt Try.prog 83 4) ((laG10 s i l).st 0) .normal ((laG10 s (i + 1) (l ++ [[]])).st 0) := by
  refine stepXS_ok kByteOf_ok (la_dot10 s i l) ?_
  have hc := (s.getD i 0).toNat_lt
  simp only [wNat (z := (i : Int) + (1 : Int)) (i + 1) (by omega) (by omega), Int.toNat_natCast, UInt8.ofNat_toNat]
  repeat' (first | exact allNil | refine allCons ?_ ?_ | (with_reducible refine allRp _ ?_ ?_))
  all_goals first | (with_reducible rfl) | exact True.intro | exact decide_eq_true (by omega) | exact decide_eq_false (by omega) | omega | exact beq_eq_false_iff_ne.2 (by omega) | exact beq_iff_eq.2 (by omega) | exact same_flat (fun _ => rfl) rfl | exact same_flat (fun _ => rfl) (by simp [rowsL, sStr]) | (intro x hx; rw [List.mem_singleton.1 hx]; exact ⟨by omega, by omega⟩) | (intro x hx; rw [List.mem_singleton.1 hx]; exact ⟨_, rfl⟩) | (intro x hx; rw [List.mem_singleton.1 hx]; simp [isByteAV, wu8]; done) | (intro x hx; rw [List.mem_singleton.1 hx]; simp [isByteAV, wu8]; omega) | (simp [h3]; done) | (simp [rowsL]; done) | (simp [SameO]; done) | (simp; done) | (simp; omega)
theorem lr_esc10 (s : List UInt8) (hs : s.length ≤ 1000000) (i : Nat) (l : List (List UInt8)) (hll : l.length ≤ 1000001) (h1 : i < s.length) (h2 : (s.getD i 0).toNat = 92) (h3 : byB (s.drop (i + 1)) = true) : EvX Try.prog 0 (loopAt Try.prog 83 4) ((laG10 s i l).st 0) .normal ((laG11 s (i + 4) l [UInt8.ofNat (byC (s.drop (i + 1)))]).st 0) := by
  refine stepXS_ok kByteOf_ok (la_esc10 s i l) ?_
  have hl3 := byB_len h3
  rw [List.length_drop] at hl3
  have hb3 := byC_lt (s.drop (i + 1))
  have e1 : strB [AV.val (Value.string { data := List.toArray (s.drop (i + 1)) })] = s.drop (i + 1) := strB_s _
  have e2 : ((byC (s.drop (i + 1)) : Nat) : Int) % 256 = ((byC (s.drop (i + 1)) : Nat) : Int) := by omega
  simp only [wNat (z := (i : Int) + (1 : Int)) (i + 1) (by omega) (by omega), wNat (z := (i : Int) + (3 : Int)) (i + 3) (by omega) (by omega), wNat (z := ((i + 3 : Nat) : Int) + (1 : Int)) (i + 4) (by omega) (by omega), Int.toNat_natCast, ext_drop, e1]
  repeat' (first | exact allNil | refine allCons ?_ ?_ | (with_reducible refine allRp _ ?_ ?_))
  all_goals first | (with_reducible rfl) | exact True.intro | exact decide_eq_true (by omega) | exact decide_eq_false (by omega) | omega | exact beq_eq_false_iff_ne.2 (by omega) | exact beq_iff_eq.2 (by omega) | exact same_flat (fun _ => rfl) rfl | exact same_flat (fun _ => rfl) (by simp [rowsL, sStr]) | (intro x hx; rw [List.mem_singleton.1 hx]; exact ⟨by omega, by omega⟩) | (intro x hx; rw [List.mem_singleton.1 hx]; exact ⟨_, rfl⟩) | (intro x hx; rw [List.mem_singleton.1 hx]; simp [isByteAV, wu8]; done) | (intro x hx; rw [List.mem_singleton.1 hx]; simp [isByteAV, wu8]; omega) | (simp [h3]; done) | (simp [rowsL]; done) | (simp [SameO]; done) | (simp; done) | (simp; omega)
theorem lr_bad10 (s : List UInt8) (hs : s.length ≤ 1000000) (i : Nat) (l : List (List UInt8)) (hll : l.length ≤ 1000001) (h1 : i < s.length) (h2 : (s.getD i 0).toNat = 92) (h3 : byB (s.drop (i + 1)) = false) : EvX Try.prog 0 (loopAt Try.prog 83 4) ((laG10 s i l).st 0) .ret ((laN).st 0) := by
  refine stepXS_ok kByteOf_ok (la_bad10 s i l) ?_
  have hb3 := byC_lt (s.drop (i + 1))
  have e1 : strB [AV.val (Value.string { data := List.toArray (s.drop (i + 1)) })] = s.drop (i + 1) := strB_s _
  have e2 : ((byC (s.drop (i + 1)) : Nat) : Int) % 256 = ((byC (s.drop (i + 1)) : Nat) : Int) := by omega
  simp only [wNat (z := (i : Int) + (1 : Int)) (i + 1) (by omega) (by omega), wNat (z := (i : Int) + (3 : Int)) (i + 3) (by omega) (by omega), wNat (z := ((i + 3 : Nat) : Int) + (1 : Int)) (i + 4) (by omega) (by omega), Int.toNat_natCast, ext_drop, e1]
  repeat' (first | exact allNil | refine allCons ?_ ?_ | (with_reducible refine allRp _ ?_ ?_))
  all_goals first | (with_reducible rfl) | exact True.intro | exact decide_eq_true (by omega) | exact decide_eq_false (by omega) | omega | exact beq_eq_false_iff_ne.2 (by omega) | exact beq_iff_eq.2 (by omega) | exact same_flat (fun _ => rfl) rfl | exact same_flat (fun _ => rfl) (by simp [rowsL, sStr]) | (intro x hx; rw [List.mem_singleton.1 hx]; exact ⟨by omega, by omega⟩) | (intro x hx; rw [List.mem_singleton.1 hx]; exact ⟨_, rfl⟩) | (intro x hx; rw [List.mem_singleton.1 hx]; simp [isByteAV, wu8]; done) | (intro x hx; rw [List.mem_singleton.1 hx]; simp [isByteAV, wu8]; omega) | (simp [h3]; done) | (simp [rowsL]; done) | (simp [SameO]; done) | (simp; done) | (simp; omega)
theorem lr_chr10 (s : List UInt8) (hs : s.length ≤ 1000000) (i : Nat) (l : List (List UInt8)) (hll : l.length ≤ 1000001) (h1 : i < s.length) (h2 : (s.getD i 0).toNat ≠ 46) (h3 : (s.getD i 0).toNat ≠ 92) : EvX Try.prog 0 (loopAt Try.prog 83 4) ((laG10 s i l).st 0) .normal ((laG11 s (i + 1) l [s.getD i 0]).st 0) := by
  refine stepXS_ok kByteOf_ok (la_chr10 s i l) ?_
  have hc := (s.getD i 0).toNat_lt
  simp only [wNat (z := (i : Int) + (1 : Int)) (i + 1) (by omega) (by omega), Int.toNat_natCast, UInt8.ofNat_toNat]
  repeat' (first | exact allNil | refine allCons ?_ ?_ | (with_reducible refine allRp _ ?_ ?_))
  all_goals first | (with_reducible rfl) | exact True.intro | exact decide_eq_true (by omega) | exact decide_eq_false (by omega) | omega | exact beq_eq_false_iff_ne.2 (by omega) | exact beq_iff_eq.2 (by omega) | exact same_flat (fun _ => rfl) rfl | exact same_flat (fun _ => rfl) (by simp [rowsL, sStr]) | (intro x hx; rw [List.mem_singleton.1 hx]; exact ⟨by omega, by omega⟩) | (intro x hx; rw [List.mem_singleton.1 hx]; exact ⟨_, rfl⟩) | (intro x hx; rw [List.mem_singleton.1 hx]; simp [isByteAV, wu8]; done) | (intro x hx; rw [List.mem_singleton.1 hx]; simp [isByteAV, wu8]; omega) | (simp [h3]; done) | (simp [rowsL]; done) | (simp [SameO]; done) | (simp; done) | (simp; omega)
theorem lr_end10 (s : List UInt8) (hs : s.length ≤ 1000000) (i : Nat) (l : List (List UInt8)) (hll : l.length ≤ 1000001) (h1 : s.length ≤ i) : EvX Try.prog 0 (loopAt Try.prog 83 4) ((laG10 s i l).st 0) (.exit 0) ((laE10 l).st 0) := by
  refine stepXS_ok kByteOf_ok (la_end10 s i l) ?_
  repeat' (first | exact allNil | refine allCons ?_ ?_ | (with_reducible refine allRp _ ?_ ?_))
  all_goals first | (with_reducible rfl) | exact True.intro | exact decide_eq_true (by omega) | exact decide_eq_false (by omega) | omega | exact beq_eq_false_iff_ne.2 (by omega) | exact beq_iff_eq.2 (by omega) | exact same_flat (fun _ => rfl) rfl | exact same_flat (fun _ => rfl) (by simp [rowsL, sStr]) | (intro x hx; rw [List.mem_singleton.1 hx]; exact ⟨by omega, by omega⟩) | (intro x hx; rw [List.mem_singleton.1 hx]; exact ⟨_, rfl⟩) | (intro x hx; rw [List.mem_singleton.1 hx]; simp [isByteAV, wu8]; done) | (intro x hx; rw [List.mem_singleton.1 hx]; simp [isByteAV, wu8]; omega) | (simp [h3]; done) | (simp [rowsL]; done) | (simp [SameO]; done) | (simp; done) | (simp; omega)
theorem lr_dot11 (s : List UInt8) (hs : s.length ≤ 1000000) (i : Nat) (l : List (List UInt8)) (hll : l.length ≤ 1000001) (b : List UInt8) (hbl : b.length ≤ 1000001) (h1 : i < s.length) (h2 : (s.getD i 0).toNat = 46) : EvX Try.prog 0 (loopAt Try.prog 83 4) ((laG11 s i l b).st 0) .normal ((laG10 s (i + 1) (l ++ [b])).st 0) := by
  refine stepXS_ok kByteOf_ok (la_dot11 s i l b) ?_
  have hc := (s.getD i 0).toNat_lt
  simp only [wNat (z := (i : Int) + (1 : Int)) (i + 1) (by omega) (by omega), Int.toNat_natCast, UInt8.ofNat_toNat]
  repeat' (first | exact allNil | refine allCons ?_ ?_ | (with_reducible refine allRp _ ?_ ?_))
  all_goals first | (with_reducible rfl) | exact True.intro | exact decide_eq_true (by omega) | exact decide_eq_false (by omega) | omega | exact beq_eq_false_iff_ne.2 (by omega) | exact beq_iff_eq.2 (by omega) | exact same_flat (fun _ => rfl) rfl | exact same_flat (fun _ => rfl) (by simp [rowsL, sStr]) | (intro x hx; rw [List.mem_singleton.1 hx]; exact ⟨by omega, by omega⟩) | (intro x hx; rw [List.mem_singleton.1 hx]; exact ⟨_, rfl⟩) | (intro x hx; rw [List.mem_singleton.1 hx]; simp [isByteAV, wu8]; done) | (intro x hx; rw [List.mem_singleton.1 hx]; simp [isByteAV, wu8]; omega) | (simp [h3]; done) | (simp [rowsL]; done) | (simp [SameO]; done) | (simp; done) | (simp; omega)
theorem lr_esc11 (s : List UInt8) (hs : s.length ≤ 1000000) (i : Nat) (l : List (List UInt8)) (hll : l.length ≤ 1000001) (b : List UInt8) (hbl : b.length ≤ 1000001) (h1 : i < s.length) (h2 : (s.getD i 0).toNat = 92) (h3 : byB (s.drop (i + 1)) = true) : EvX Try.prog 0 (loopAt Try.prog 83 4) ((laG11 s i l b).st 0) .normal ((laG11 s (i + 4) l (b ++ [UInt8.ofNat (byC (s.drop (i + 1)))])).st 0) := by
  refine stepXS_ok kByteOf_ok (la_esc11 s i l b) ?_
  have hl3 := byB_len h3
  rw [List.length_drop] at hl3
  have hb3 := byC_lt (s.drop (i + 1))
  have e1 : strB [AV.val (Value.string { data := List.toArray (s.drop (i + 1)) })] = s.drop (i + 1) := strB_s _
  have e2 : ((byC (s.drop (i + 1)) : Nat) : Int) % 256 = ((byC (s.drop (i + 1)) : Nat) : Int) := by omega
  simp only [wNat (z := (i : Int) + (1 : Int)) (i + 1) (by omega) (by omega), wNat (z := (i : Int) + (3 : Int)) (i + 3) (by omega) (by omega), wNat (z := ((i + 3 : Nat) : Int) + (1 : Int)) (i + 4) (by omega) (by omega), Int.toNat_natCast, ext_drop, e1]
  repeat' (first | exact allNil | refine allCons ?_ ?_ | (with_reducible refine allRp _ ?_ ?_))
  all_goals first | (with_reducible rfl) | exact True.intro | exact decide_eq_true (by omega) | exact decide_eq_false (by omega) | omega | exact beq_eq_false_iff_ne.2 (by omega) | exact beq_iff_eq.2 (by omega) | exact same_flat (fun _ => rfl) rfl | exact same_flat (fun _ => rfl) (by simp [rowsL, sStr]) | (intro x hx; rw [List.mem_singleton.1 hx]; exact ⟨by omega, by omega⟩) | (intro x hx; rw [List.mem_singleton.1 hx]; exact ⟨_, rfl⟩) | (intro x hx; rw [List.mem_singleton.1 hx]; simp [isByteAV, wu8]; done) | (intro x hx; rw [List.mem_singleton.1 hx]; simp [isByteAV, wu8]; omega) | (simp [h3]; done) | (simp [rowsL]; done) | (simp [SameO]; done) | (simp; done) | (simp; omega)
theorem lr_bad11 (s : List UInt8) (hs : s.length ≤ 1000000) (i : Nat) (l : List (List UInt8)) (hll : l.length ≤ 1000001) (b : List UInt8) (hbl : b.length ≤ 1000001) (h1 : i < s.length) (h2 : (s.getD i 0).toNat = 92) (h3 : byB (s.drop (i + 1)) = false) : EvX Try.prog 0 (loopAt Try.prog 83 4) ((laG11 s i l b).st 0) .ret ((laN).st 0) := by
  refine stepXS_ok kByteOf_ok (la_bad11 s i l b) ?_
  have hb3 := byC_lt (s.drop (i + 1))
  have e1 : strB [AV.val (Value.string { data := List.toArray (s.drop (i + 1)) })] = s.drop (i + 1) := strB_s _
  have e2 : ((byC (s.drop (i + 1)) : Nat) : Int) % 256 = ((byC (s.drop (i + 1)) : Nat) : Int) := by omega
  simp only [wNat (z := (i : Int) + (1 : Int)) (i + 1) (by omega) (by omega), wNat (z := (i : Int) + (3 : Int)) (i + 3) (by omega) (by omega), wNat (z := ((i + 3 : Nat) : Int) + (1 : Int)) (i + 4) (by omega) (by omega), Int.toNat_natCast, ext_drop, e1]
  repeat' (first | exact allNil | refine allCons ?_ ?_ | (with_reducible refine allRp _ ?_ ?_))
  all_goals first | (with_reducible rfl) | exact True.intro | exact decide_eq_true (by omega) | exact decide_eq_false (by omega) | omega | exact beq_eq_false_iff_ne.2 (by omega) | exact beq_iff_eq.2 (by omega) | exact same_flat (fun _ => rfl) rfl | exact same_flat (fun _ => rfl) (by simp [rowsL, sStr]) | (intro x hx; rw [List.mem_singleton.1 hx]; exact ⟨by omega, by omega⟩) | (intro x hx; rw [List.mem_singleton.1 hx]; exact ⟨_, rfl⟩) | (intro x hx; rw [List.mem_singleton.1 hx]; simp [isByteAV, wu8]; done) | (intro x hx; rw [List.mem_singleton.1 hx]; simp [isByteAV, wu8]; omega) | (simp [h3]; done) | (simp [rowsL]; done) | (simp [SameO]; done) | (simp; done) | (simp; omega)
theorem lr_chr11 (s : List UInt8) (hs : s.length ≤ 1000000) (i : Nat) (l : List (List UInt8)) (hll : l.length ≤ 1000001) (b : List UInt8) (hbl : b.length ≤ 1000001) (h1 : i < s.length) (h2 : (s.getD i 0).toNat ≠ 46) (h3 : (s.getD i 0).toNat ≠ 92) : EvX Try.prog 0 (loopAt Try.prog 83 4) ((laG11 s i l b).st 0) .normal ((laG11 s (i + 1) l (b ++ [s.getD i 0])).st 0) := by
  refine stepXS_ok kByteOf_ok (la_chr11 s i l b) ?_
  have hc := (s.getD i 0).toNat_lt
  simp only [wNat (z := (i : Int) + (1 : Int)) (i + 1) (by omega) (by omega), Int.toNat_natCast, UInt8.ofNat_toNat]
  repeat' (first | exact allNil | refine allCons ?_ ?_ | (with_reducible refine allRp _ ?_ ?_))
  all_goals first | (with_reducible rfl) | exact True.intro | exact decide_eq_true (by omega) | exact decide_eq_false (by omega) | omega | exact beq_eq_false_iff_ne.2 (by omega) | exact beq_iff_eq.2 (by omega) | exact same_flat (fun _ => rfl) rfl | exact same_flat (fun _ => rfl) (by simp [rowsL, sStr]) | (intro x hx; rw [List.mem_singleton.1 hx]; exact ⟨by omega, by omega⟩) | (intro x hx; rw [List.mem_singleton.1 hx]; exact ⟨_, rfl⟩) | (intro x hx; rw [List.mem_singleton.1 hx]; simp [isByteAV, wu8]; done) | (intro x hx; rw [List.mem_singleton.1 hx]; simp [isByteAV, wu8]; omega) | (simp [h3]; done) | (simp [rowsL]; done) | (simp [SameO]; done) | (simp; done) | (simp; omega)
theorem lr_end11 (s : List UInt8) (hs : s.length ≤ 1000000) (i : Nat) (l : List (List UInt8)) (hll : l.length ≤ 1000001) (b : List UInt8) (hbl : b.length ≤ 1000001) (h1 : s.length ≤ i) : EvX Try.prog 0 (loopAt Try.prog 83 4) ((laG11 s i l b).st 0) (.exit 0) ((laE11 l b).st 0) := by
  refine stepXS_ok kByteOf_ok (la_end11 s i l b) ?_
  repeat' (first | exact allNil | refine allCons ?_ ?_ | (with_reducible refine allRp _ ?_ ?_))
  all_goals first | (with_reducible rfl) | exact True.intro | exact decide_eq_true (by omega) | exact decide_eq_false (by omega) | omega | exact beq_eq_false_iff_ne.2 (by omega) | exact beq_iff_eq.2 (by omega) | exact same_flat (fun _ => rfl) rfl | exact same_flat (fun _ => rfl) (by simp [rowsL, sStr]) | (intro x hx; rw [List.mem_singleton.1 hx]; exact ⟨by omega, by omega⟩) | (intro x hx; rw [List.mem_singleton.1 hx]; exact ⟨_, rfl⟩) | (intro x hx; rw [List.mem_singleton.1 hx]; simp [isByteAV, wu8]; done) | (intro x hx; rw [List.mem_singleton.1 hx]; simp [isByteAV, wu8]; omega) | (simp [h3]; done) | (simp [rowsL]; done) | (simp [SameO]; done) | (simp; done) | (simp; omega)

def laS (s : List UInt8) (i : Nat) (l : List (List UInt8)) (b : List UInt8) : GoalX := if l = [] then (if b = [] then laG00 s i else laG01 s i b) else (if b = [] then laG10 s i l else laG11 s i l b)
def laES (l : List (List UInt8)) (b : List UInt8) : GoalX := if l = [] then (if b = [] then laE00 else laE01 b) else (if b = [] then laE10 l else laE11 l b)
def laX : Option (List (List UInt8) × List UInt8) → Ex
  | none => .ret
  | some _ => .exit 0
def laY : Option (List (List UInt8) × List UInt8) → GoalX
  | none => laN
  | some p => laES p.1 p.2
theorem cutF_zero (k : Nat) (b : List UInt8) (l : List (List UInt8)) : cutF k [] b l = some (l, b) := by cases k <;> rfl

theorem la_loop (s : List UInt8) (hs : s.length ≤ 1000000) : ∀ (k i : Nat) (l : List (List UInt8)) (b : List UInt8), s.length ≤ i + k → i ≤ s.length → l.length ≤ i → b.length ≤ i →
    EvXL Try.prog 0 (loopAt Try.prog 83 4) ((laS s i l b).st 0) (laX (cutF k (s.drop i) b l)) ((laY (cutF k (s.drop i) b l)).st 0) := by
  intro k
  induction k with
  | zero =>
    intro i l b hk hi hl hb
    have e : s.drop i = [] := List.drop_of_length_le (by omega)
    rw [e, cutF_zero]
    unfold laS
    show EvXL _ _ _ _ _ ((laES l b).st 0)
    unfold laES
    split <;> split
    · exact EvXL.last (lr_end00 s hs i (by omega)) (by simp [laX])
    · exact EvXL.last (lr_end01 s hs i b (by omega) (by omega)) (by simp [laX])
    · exact EvXL.last (lr_end10 s hs i l (by omega) (by omega)) (by simp [laX])
    · exact EvXL.last (lr_end11 s hs i l (by omega) b (by omega) (by omega)) (by simp [laX])
  | succ k ih =>
    intro i l b hk hi hl hb
    by_cases h : s.length ≤ i
    · have e : s.drop i = [] := List.drop_of_length_le h
      rw [e, cutF_zero]
      unfold laS
      show EvXL _ _ _ _ _ ((laES l b).st 0)
      unfold laES
      split <;> split
      · exact EvXL.last (lr_end00 s hs i (by omega)) (by simp [laX])
      · exact EvXL.last (lr_end01 s hs i b (by omega) (by omega)) (by simp [laX])
      · exact EvXL.last (lr_end10 s hs i l (by omega) (by omega)) (by simp [laX])
      · exact EvXL.last (lr_end11 s hs i l (by omega) b (by omega) (by omega)) (by simp [laX])
    · have hlt : i < s.length := by omega
      have ed : s.drop i = s.getD i 0 :: s.drop (i + 1) := by
        rw [List.drop_eq_getElem_cons hlt, List.getD_eq_getElem?_getD, List.getElem?_eq_getElem hlt]
        rfl
      rw [ed, cutF]
      by_cases h1 : (s.getD i 0).toNat = 46
      · rw [if_pos h1]
        have := ih (i + 1) (l ++ [b]) [] (by omega) (by omega) (by simp; omega) (by simp)
        unfold laS at this ⊢
        rw [if_neg (by simp), if_pos rfl] at this
        split <;> split
        · rename_i hl0 hb0
          subst hl0 hb0
          exact EvXL.step (EvX.flat (G' := laG10 s (i + 1) [[]]) (lr_dot00 s hs i hlt h1) rfl rfl rfl ⟨rfl, objFlat_eqv .., trivial⟩) this
        · rename_i hl0 hb0
          subst hl0
          exact EvXL.step (EvX.flat (G' := laG10 s (i + 1) [b]) (lr_dot01 s hs i b (by omega) hlt h1) rfl rfl rfl ⟨rfl, objFlat_eqv .., trivial⟩) this
        · rename_i hl0 hb0
          subst hb0
          exact EvXL.step (lr_dot10 s hs i l (by omega) hlt h1) this
        · exact EvXL.step (lr_dot11 s hs i l (by omega) b (by omega) hlt h1) this
      · rw [if_neg h1]
        by_cases h2 : (s.getD i 0).toNat = 92
        · rw [if_pos h2]
          cases h3 : byB (s.drop (i + 1)) with
          | true =>
            rw [if_pos rfl]
            have hl3 := byB_len h3
            rw [List.length_drop] at hl3
            have := ih (i + 4) l (b ++ [UInt8.ofNat (byC (s.drop (i + 1)))]) (by omega) (by omega) (by omega) (by simp; omega)
            have e4 : (s.drop (i + 1)).drop 3 = s.drop (i + 4) := by rw [List.drop_drop]
            rw [e4]
            unfold laS at this ⊢
            split <;> split
            · rename_i hl0 hb0
              subst hl0 hb0
              rw [if_pos rfl, if_neg (by simp)] at this
              exact EvXL.step (lr_esc00 s hs i hlt h2 h3) this
            · rename_i hl0 hb0
              subst hl0
              rw [if_pos rfl, if_neg (by simp)] at this
              exact EvXL.step (lr_esc01 s hs i b (by omega) hlt h2 h3) this
            · rename_i hl0 hb0
              subst hb0
              rw [if_neg hl0, if_neg (by simp)] at this
              exact EvXL.step (lr_esc10 s hs i l (by omega) hlt h2 h3) this
            · rename_i hl0 hb0
              rw [if_neg hl0, if_neg (by simp)] at this
              exact EvXL.step (lr_esc11 s hs i l (by omega) b (by omega) hlt h2 h3) this
          | false =>
            rw [if_neg (by simp)]
            unfold laS
            split <;> split
            · exact EvXL.last (lr_bad00 s hs i hlt h2 h3) (by simp [laX])
            · exact EvXL.last (lr_bad01 s hs i b (by omega) hlt h2 h3) (by simp [laX])
            · exact EvXL.last (lr_bad10 s hs i l (by omega) hlt h2 h3) (by simp [laX])
            · exact EvXL.last (lr_bad11 s hs i l (by omega) b (by omega) hlt h2 h3) (by simp [laX])
        · rw [if_neg h2]
          have := ih (i + 1) l (b ++ [s.getD i 0]) (by omega) (by omega) (by omega) (by simp; omega)
          unfold laS at this ⊢
          split <;> split
          · rename_i hl0 hb0
            subst hl0 hb0
            rw [if_pos rfl, if_neg (by simp)] at this
            exact EvXL.step (lr_chr00 s hs i hlt h1 h2) this
          · rename_i hl0 hb0
            subst hl0
            rw [if_pos rfl, if_neg (by simp)] at this
            exact EvXL.step (lr_chr01 s hs i b (by omega) hlt h1 h2) this
          · rename_i hl0 hb0
            subst hb0
            rw [if_neg hl0, if_neg (by simp)] at this
            exact EvXL.step (lr_chr10 s hs i l (by omega) hlt h1 h2) this
          · rename_i hl0 hb0
            rw [if_neg hl0, if_neg (by simp)] at this
            exact EvXL.step (lr_chr11 s hs i l (by omega) b (by omega) hlt h1 h2) this
end Go.Proofs.Ytmilcpejchjleaa
