/- Several texts in one: Rp0, RpxRun, Rpx. -/
import Derived.Test.YtmilcpejchjleaaMrx

/- A name's text that is read the document's way: what the heads of the loops say. -/
namespace Go.Proofs.Ytmilcpejchjleaa
open Go.RowKit

def prO (ex : Bool) (l : List (List UInt8)) : AObj := ⟨9, 1, ex, false, .flat (rowsL l)⟩
def prOr (ex : Bool) (l : List (List UInt8)) : AObj := ⟨9, 1, ex, false, .rows (rowsL l)⟩
def prG (s : List UInt8) (i : Nat) (ex : Bool) (l : List (List UInt8)) (b : List UInt8) : GoalX := { len := 104, opn := [(0, sStr s), (5, sI i), (4, .sl 0 0 (l.length + 1) none)], oob := [(0, prO ex (l ++ [b]))], k := 1 }
def prG0 (s : List UInt8) : GoalX := { len := 104, opn := [(0, sStr s), (5, sI 0), (4, .sl 0 0 1 none)], oob := [(0, prOr true [[]])], k := 1 }
def prH (s : List UInt8) (i k n : Nat) (ex : Bool) (l : List (List UInt8)) (b : List UInt8) : GoalX := { len := 104, opn := [(0, sStr s), (5, sI i), (8, sI (k + 1)), (7, sI n), (4, .sl 0 0 (l.length + 1) none)], oob := [(0, prO ex (l ++ [b]))], k := 1 }
def prI (s : List UInt8) (i n : Nat) (ex : Bool) (l : List (List UInt8)) (b : List UInt8) : GoalX := { len := 104, opn := [(0, sStr s), (5, sI i), (7, sI n), (4, .sl 0 0 (l.length + 1) none)], oob := [(0, prO ex (l ++ [b]))], k := 1 }
def prE (s : List UInt8) (ex : Bool) (l : List (List UInt8)) (b : List UInt8) : GoalX := { len := 104, opn := [(0, sStr s), (4, .sl 0 0 (l.length + 1) none)], oob := [(0, prO ex (l ++ [b]))], k := 1 }
def prN : GoalX := { len := 104, tms := [(2, nilS), (3, .val (.bool false))] }
def prL (s : List UInt8) (e : Ex) (E : GoalX) : LoopX := { ids := [4], G := prG0 s, ex := e, E := E }
def pdL (s : List UInt8) (i : Nat) (x : Bool) (l : List (List UInt8)) (b : List UInt8) (e : Ex) (E : GoalX) : LoopX := { ids := [0], G := prH s i 0 0 x l b, ex := e, E := E }
def kQa : Inl := orInl kRGood kRText
theorem kQa_ok : InlOk Try.prog kQa := orInl_ok kRGood_ok kRText_ok
end Go.Proofs.Ytmilcpejchjleaa

/- A name's text that is read the document's way, reckoned. -/
namespace Go.Proofs.Ytmilcpejchjleaa
open Go.RowKit

set_option maxRecDepth 100000 in
theorem rpx_dot (s : List UInt8) (i : Nat) (x : Bool) (l : List (List UInt8)) (b : List UInt8) : stepXS kQa [(51, { br := [(16, true), (39, true)], ob := [(7, 2), (10, 2)] })] Try.prog 51 5 (prG s i x l b) (prG s (i + (1 : Nat)) false (l ++ [b]) []) [(14 : Nat)] 0 [] =
   some (.normal,
   [decide ((↑i : Int) < (↑(List.length s) : Int)) = true,
   (0 : Int) ≤ (↑i : Int) ∧ i < List.length s,
   ((↑(UInt8.toNat (List.getD s i (0 : UInt8))) : Int) == (46 : Int)) = true,
   List.length (rowsL (l ++ [b])) = List.length l + (1 : Nat),
   List.length l + (1 : Nat) + (1 : Nat) ≤ (1000000000 : Nat),
   (List.length l + (1 : Nat) + (1 : Nat)) * (16 : Nat) ≤ (140737488355328 : Nat),
   AV.val (Value.string { data := List.toArray s }) = AV.val (Value.string { data := List.toArray s }),
   AV.val (Value.int IntKind.i64 (IntKind.wrap IntKind.i64 ((↑i : Int) + (1 : Int)))) = AV.val (Value.int IntKind.i64 (↑(i + (1 : Nat)) : Int)),
   AV.sl 14 (0 : Nat) (List.length l + (1 : Nat) + (1 : Nat)) none = AV.sl (14 : Nat) (0 : Nat) (List.length (l ++ [b]) + (1 : Nat)) none,
   SameO (some { t := (9 : Nat), sz := (1 : Nat), exact := false, fz := false, body := Body.flat (rowsL (l ++ [b]) ++ [[AV.val (Value.string { data := #[] })]]) }) { t := (9 : Nat), sz := (1 : Nat), exact := false, fz := false, body := Body.flat (List.map (fun x => (AV.brecOn_1.go x (AV.ren._f (renX 0 [(14 : Nat)] 19)) (renL._f (renX 0 [(14 : Nat)] 19))).1) (rowsL (l ++ [b] ++ [[]]))) }]) := by kernel_rfl

set_option maxRecDepth 100000 in
theorem rpx_chr (s : List UInt8) (i : Nat) (x : Bool) (l : List (List UInt8)) (b : List UInt8) : stepXS kQa [(51, { op := [(8, 9, Hn.row [sStr b]), (8, 17, Hn.row [sStr b]), (24, 9, Hn.row [sStr b]), (24, 16, Hn.row [sStr b])], br := [(16, true), (39, false), (45, false)], ob := [(7, 2), (8, 8), (8, 14), (8, 15), (8, 16)] })] Try.prog 51 5 (prG s i x l b) (prG s (i + (1 : Nat)) x l (b ++ [List.getD s i (0 : UInt8)])) [(0 : Nat)] 0 [] =
   some (.normal,
   [decide ((↑i : Int) < (↑(List.length s) : Int)) = true,
   (0 : Int) ≤ (↑i : Int) ∧ i < List.length s,
   ((↑(UInt8.toNat (List.getD s i (0 : UInt8))) : Int) == (46 : Int)) = false,
   ((↑(UInt8.toNat (List.getD s i (0 : UInt8))) : Int) == (92 : Int)) = false,
   (0 : Int) ≤ IntKind.wrap IntKind.i64 ((↑(List.length l + (1 : Nat)) : Int) - (1 : Int)) ∧ IntKind.wrap IntKind.i64 ((↑(List.length l + (1 : Nat)) : Int) - (1 : Int)) < (↑(List.length l + (1 : Nat)) : Int),
   (rowsL (l ++ [b]))[(0 : Nat) + Int.toNat (IntKind.wrap IntKind.i64 ((↑(List.length l + (1 : Nat)) : Int) - (1 : Int)))]? = some [AV.val (Value.string { data := List.toArray b })],
   (0 : Int) ≤ (↑i : Int),
   (0 : Int) ≤ IntKind.wrap IntKind.i64 ((↑i : Int) + (1 : Int)),
   i ≤ Int.toNat (IntKind.wrap IntKind.i64 ((↑i : Int) + (1 : Int))) ∧ Int.toNat (IntKind.wrap IntKind.i64 ((↑i : Int) + (1 : Int))) ≤ List.length s,
   List.length (textB { data := List.toArray b }) + List.length (textB (ByteArray.extract { data := List.toArray s } i (Int.toNat (IntKind.wrap IntKind.i64 ((↑i : Int) + (1 : Int)))))) ≤ (1000000000000 : Nat),
   (0 : Int) ≤ IntKind.wrap IntKind.i64 ((↑(List.length l + (1 : Nat)) : Int) - (1 : Int)) ∧ IntKind.wrap IntKind.i64 ((↑(List.length l + (1 : Nat)) : Int) - (1 : Int)) < (↑(List.length l + (1 : Nat)) : Int),
   (rowsL (l ++ [b]))[(0 : Nat) + Int.toNat (IntKind.wrap IntKind.i64 ((↑(List.length l + (1 : Nat)) : Int) - (1 : Int)))]? = some [AV.val (Value.string { data := List.toArray b })],
   AV.val (Value.string { data := List.toArray s }) = AV.val (Value.string { data := List.toArray s }),
   AV.val (Value.int IntKind.i64 (IntKind.wrap IntKind.i64 ((↑i : Int) + (1 : Int)))) = AV.val (Value.int IntKind.i64 (↑(i + (1 : Nat)) : Int)),
   AV.sl (0 : Nat) (0 : Nat) (List.length l + (1 : Nat)) none = AV.sl (0 : Nat) (0 : Nat) (List.length l + (1 : Nat)) none,
   SameO (some { t := (9 : Nat), sz := (1 : Nat), exact := x, fz := false, body := Body.flat (List.set (rowsL (l ++ [b])) ((0 : Nat) + Int.toNat (IntKind.wrap IntKind.i64 ((↑(List.length l + (1 : Nat)) : Int) - (1 : Int)))) (List.map AV.val [Value.string { data := List.toArray (textB { data := List.toArray b } ++ textB (ByteArray.extract { data := List.toArray s } i (Int.toNat (IntKind.wrap IntKind.i64 ((↑i : Int) + (1 : Int)))))) }] ++ List.drop ((0 : Nat) + List.length (List.map AV.val [Value.string { data := List.toArray (textB { data := List.toArray b } ++ textB (ByteArray.extract { data := List.toArray s } i (Int.toNat (IntKind.wrap IntKind.i64 ((↑i : Int) + (1 : Int)))))) }])) [AV.val (Value.string { data := List.toArray b })])) }) { t := (9 : Nat), sz := (1 : Nat), exact := x, fz := false, body := Body.flat (List.map (fun x => (AV.brecOn_1.go x (AV.ren._f (renX 0 [(0 : Nat)] 36)) (renL._f (renX 0 [(0 : Nat)] 36))).1) (rowsL (l ++ [b ++ [List.getD s i (0 : UInt8)]]))) }]) := by kernel_rfl

set_option maxRecDepth 100000 in
theorem rpx_short (s : List UInt8) (i : Nat) (x : Bool) (l : List (List UInt8)) (b : List UInt8) : stepXS kQa [(51, { br := [(16, true), (39, false), (45, true), (52, true)], ob := [(7, 2)] })] Try.prog 51 5 (prG s i x l b) (prN) [] 0 [] =
   some (.ret,
   [decide ((↑i : Int) < (↑(List.length s) : Int)) = true,
   (0 : Int) ≤ (↑i : Int) ∧ i < List.length s,
   ((↑(UInt8.toNat (List.getD s i (0 : UInt8))) : Int) == (46 : Int)) = false,
   ((↑(UInt8.toNat (List.getD s i (0 : UInt8))) : Int) == (92 : Int)) = true,
   decide (IntKind.wrap IntKind.i64 ((↑i : Int) + (3 : Int)) ≥ (↑(List.length s) : Int)) = true]) := by kernel_rfl

set_option maxRecDepth 100000 in
theorem rpx_bad (s : List UInt8) (i : Nat) (x : Bool) (l : List (List UInt8)) (b : List UInt8) : stepXS kQa [(51, { br := [(16, true), (39, false), (45, true), (52, false)], ob := [(7, 2)] })] Try.prog 51 5 (prG s i x l b) (prN) [] 0 [(16, pdL s i x l b Ex.ret prN)] =
   some (.ret,
   [decide ((↑i : Int) < (↑(List.length s) : Int)) = true,
   (0 : Int) ≤ (↑i : Int) ∧ i < List.length s,
   ((↑(UInt8.toNat (List.getD s i (0 : UInt8))) : Int) == (46 : Int)) = false,
   ((↑(UInt8.toNat (List.getD s i (0 : UInt8))) : Int) == (92 : Int)) = true,
   decide (IntKind.wrap IntKind.i64 ((↑i : Int) + (3 : Int)) ≥ (↑(List.length s) : Int)) = false,
   AV.val (Value.string { data := List.toArray s }) = AV.val (Value.string { data := List.toArray s }),
   AV.val (Value.int IntKind.i64 (↑i : Int)) = AV.val (Value.int IntKind.i64 (↑i : Int)),
   AV.val (Value.int IntKind.i64 (1 : Int)) = AV.val (Value.int IntKind.i64 (1 : Int)),
   AV.val (Value.int IntKind.i64 (0 : Int)) = AV.val (Value.int IntKind.i64 (0 : Int)),
   AV.sl (0 : Nat) (0 : Nat) (List.length l + (1 : Nat)) none = AV.sl (0 : Nat) (0 : Nat) (List.length l + (1 : Nat)) none,
   SameO (some { t := (9 : Nat), sz := (1 : Nat), exact := x, fz := false, body := Body.flat (rowsL (l ++ [b])) }) { t := (9 : Nat), sz := (1 : Nat), exact := x, fz := false, body := Body.flat (List.map (fun x => (AV.brecOn_1.go x (AV.ren._f (renX 0 [(0 : Nat)] 22)) (renL._f (renX 0 [(0 : Nat)] 22))).1) (rowsL (l ++ [b]))) },
   EvXL Try.prog 0 (loopAt Try.prog 51 16) (GoalX.st (LoopX.G (pdL s i x l b Ex.ret prN)) 0) (LoopX.ex (pdL s i x l b Ex.ret prN)) (GoalX.st (LoopX.E (pdL s i x l b Ex.ret prN)) 0)]) := by kernel_rfl

set_option maxRecDepth 100000 in
theorem rpx_big (s : List UInt8) (i : Nat) (x : Bool) (l : List (List UInt8)) (b : List UInt8) (n : Nat) : stepXS kQa [(51, { br := [(16, true), (39, false), (45, true), (52, false), (75, true)], ob := [(7, 2)] })] Try.prog 51 5 (prG s i x l b) (prN) [] 0 [(16, pdL s i x l b (Ex.exit (3 : Nat)) (prI s i n x l b))] =
   some (.ret,
   [decide ((↑i : Int) < (↑(List.length s) : Int)) = true,
   (0 : Int) ≤ (↑i : Int) ∧ i < List.length s,
   ((↑(UInt8.toNat (List.getD s i (0 : UInt8))) : Int) == (46 : Int)) = false,
   ((↑(UInt8.toNat (List.getD s i (0 : UInt8))) : Int) == (92 : Int)) = true,
   decide (IntKind.wrap IntKind.i64 ((↑i : Int) + (3 : Int)) ≥ (↑(List.length s) : Int)) = false,
   AV.val (Value.string { data := List.toArray s }) = AV.val (Value.string { data := List.toArray s }),
   AV.val (Value.int IntKind.i64 (↑i : Int)) = AV.val (Value.int IntKind.i64 (↑i : Int)),
   AV.val (Value.int IntKind.i64 (1 : Int)) = AV.val (Value.int IntKind.i64 (1 : Int)),
   AV.val (Value.int IntKind.i64 (0 : Int)) = AV.val (Value.int IntKind.i64 (0 : Int)),
   AV.sl (0 : Nat) (0 : Nat) (List.length l + (1 : Nat)) none = AV.sl (0 : Nat) (0 : Nat) (List.length l + (1 : Nat)) none,
   SameO (some { t := (9 : Nat), sz := (1 : Nat), exact := x, fz := false, body := Body.flat (rowsL (l ++ [b])) }) { t := (9 : Nat), sz := (1 : Nat), exact := x, fz := false, body := Body.flat (List.map (fun x => (AV.brecOn_1.go x (AV.ren._f (renX 0 [(0 : Nat)] 22)) (renL._f (renX 0 [(0 : Nat)] 22))).1) (rowsL (l ++ [b]))) },
   EvXL Try.prog 0 (loopAt Try.prog 51 16) (GoalX.st (LoopX.G (pdL s i x l b (Ex.exit (3 : Nat)) (prI s i n x l b))) 0) (LoopX.ex (pdL s i x l b (Ex.exit (3 : Nat)) (prI s i n x l b))) (GoalX.st (LoopX.E (pdL s i x l b (Ex.exit (3 : Nat)) (prI s i n x l b))) 0),
   decide ((↑n : Int) > (255 : Int)) = true]) := by kernel_rfl

set_option maxRecDepth 100000 in
theorem rpx_esc (s : List UInt8) (i : Nat) (x : Bool) (l : List (List UInt8)) (b : List UInt8) (n : Nat) : stepXS kQa [(51, { op := [(8, 9, Hn.row [sStr b]), (8, 17, Hn.row [sStr b]), (24, 9, Hn.row [sStr b]), (24, 16, Hn.row [sStr b])], br := [(16, true), (39, false), (45, true), (52, false), (75, false)], ob := [(7, 2), (24, 8), (24, 12), (24, 14), (24, 15)] })] Try.prog 51 5 (prG s i x l b) (prG s (i + (4 : Nat)) x l (b ++ [UInt8.ofNat n])) [(0 : Nat)] 0 [(16, pdL s i x l b (Ex.exit (3 : Nat)) (prI s i n x l b))] =
   some (.normal,
   [decide ((↑i : Int) < (↑(List.length s) : Int)) = true,
   (0 : Int) ≤ (↑i : Int) ∧ i < List.length s,
   ((↑(UInt8.toNat (List.getD s i (0 : UInt8))) : Int) == (46 : Int)) = false,
   ((↑(UInt8.toNat (List.getD s i (0 : UInt8))) : Int) == (92 : Int)) = true,
   decide (IntKind.wrap IntKind.i64 ((↑i : Int) + (3 : Int)) ≥ (↑(List.length s) : Int)) = false,
   AV.val (Value.string { data := List.toArray s }) = AV.val (Value.string { data := List.toArray s }),
   AV.val (Value.int IntKind.i64 (↑i : Int)) = AV.val (Value.int IntKind.i64 (↑i : Int)),
   AV.val (Value.int IntKind.i64 (1 : Int)) = AV.val (Value.int IntKind.i64 (1 : Int)),
   AV.val (Value.int IntKind.i64 (0 : Int)) = AV.val (Value.int IntKind.i64 (0 : Int)),
   AV.sl (0 : Nat) (0 : Nat) (List.length l + (1 : Nat)) none = AV.sl (0 : Nat) (0 : Nat) (List.length l + (1 : Nat)) none,
   SameO (some { t := (9 : Nat), sz := (1 : Nat), exact := x, fz := false, body := Body.flat (rowsL (l ++ [b])) }) { t := (9 : Nat), sz := (1 : Nat), exact := x, fz := false, body := Body.flat (List.map (fun x => (AV.brecOn_1.go x (AV.ren._f (renX 0 [(0 : Nat)] 22)) (renL._f (renX 0 [(0 : Nat)] 22))).1) (rowsL (l ++ [b]))) },
   EvXL Try.prog 0 (loopAt Try.prog 51 16) (GoalX.st (LoopX.G (pdL s i x l b (Ex.exit (3 : Nat)) (prI s i n x l b))) 0) (LoopX.ex (pdL s i x l b (Ex.exit (3 : Nat)) (prI s i n x l b))) (GoalX.st (LoopX.E (pdL s i x l b (Ex.exit (3 : Nat)) (prI s i n x l b))) 0),
   decide ((↑n : Int) > (255 : Int)) = false,
   (0 : Int) ≤ IntKind.wrap IntKind.i64 ((↑(List.length l + (1 : Nat)) : Int) - (1 : Int)) ∧ IntKind.wrap IntKind.i64 ((↑(List.length l + (1 : Nat)) : Int) - (1 : Int)) < (↑(List.length l + (1 : Nat)) : Int),
   (rowsL (l ++ [b]))[(0 : Nat) + Int.toNat (IntKind.wrap IntKind.i64 ((↑(List.length l + (1 : Nat)) : Int) - (1 : Int)))]? = some [AV.val (Value.string { data := List.toArray b })],
   ∀ (x : AV), x ∈ [AV.val (Value.int IntKind.u8 (IntKind.wrap IntKind.u8 (↑n : Int)))] → isByteAV x,
   List.length (textB { data := List.toArray b }) + List.length (textB { data := #[UInt8.ofNat (Int.toNat (IntKind.wrap IntKind.u8 (↑n : Int)))] }) ≤ (1000000000000 : Nat),
   (0 : Int) ≤ IntKind.wrap IntKind.i64 ((↑(List.length l + (1 : Nat)) : Int) - (1 : Int)) ∧ IntKind.wrap IntKind.i64 ((↑(List.length l + (1 : Nat)) : Int) - (1 : Int)) < (↑(List.length l + (1 : Nat)) : Int),
   (rowsL (l ++ [b]))[(0 : Nat) + Int.toNat (IntKind.wrap IntKind.i64 ((↑(List.length l + (1 : Nat)) : Int) - (1 : Int)))]? = some [AV.val (Value.string { data := List.toArray b })],
   AV.val (Value.string { data := List.toArray s }) = AV.val (Value.string { data := List.toArray s }),
   AV.val (Value.int IntKind.i64 (IntKind.wrap IntKind.i64 (IntKind.wrap IntKind.i64 ((↑i : Int) + (3 : Int)) + (1 : Int)))) = AV.val (Value.int IntKind.i64 (↑(i + (4 : Nat)) : Int)),
   AV.sl (0 : Nat) (0 : Nat) (List.length l + (1 : Nat)) none = AV.sl (0 : Nat) (0 : Nat) (List.length l + (1 : Nat)) none,
   SameO (some { t := (9 : Nat), sz := (1 : Nat), exact := x, fz := false, body := Body.flat (List.set (rowsL (l ++ [b])) ((0 : Nat) + Int.toNat (IntKind.wrap IntKind.i64 ((↑(List.length l + (1 : Nat)) : Int) - (1 : Int)))) (List.map AV.val [Value.string { data := List.toArray (textB { data := List.toArray b } ++ textB { data := #[UInt8.ofNat (Int.toNat (IntKind.wrap IntKind.u8 (↑n : Int)))] }) }] ++ List.drop ((0 : Nat) + List.length (List.map AV.val [Value.string { data := List.toArray (textB { data := List.toArray b } ++ textB { data := #[UInt8.ofNat (Int.toNat (IntKind.wrap IntKind.u8 (↑n : Int)))] }) }])) [AV.val (Value.string { data := List.toArray b })])) }) { t := (9 : Nat), sz := (1 : Nat), exact := x, fz := false, body := Body.flat (List.map (fun x => (AV.brecOn_1.go x (AV.ren._f (renX 0 [(0 : Nat)] 26)) (renL._f (renX 0 [(0 : Nat)] 26))).1) (rowsL (l ++ [b ++ [UInt8.ofNat n]]))) }]) := by kernel_rfl

set_option maxRecDepth 100000 in
theorem rpx_end (s : List UInt8) (i : Nat) (x : Bool) (l : List (List UInt8)) (b : List UInt8) : stepXS kQa [(51, { br := [(16, false)] })] Try.prog 51 5 (prG s i x l b) (prE s x l b) [(0 : Nat)] 0 [] =
   some (.exit 0,
   [decide ((↑i : Int) < (↑(List.length s) : Int)) = false,
   AV.val (Value.string { data := List.toArray s }) = AV.val (Value.string { data := List.toArray s }),
   AV.sl (0 : Nat) (0 : Nat) (List.length l + (1 : Nat)) none = AV.sl (0 : Nat) (0 : Nat) (List.length l + (1 : Nat)) none,
   SameO (some { t := (9 : Nat), sz := (1 : Nat), exact := x, fz := false, body := Body.flat (rowsL (l ++ [b])) }) { t := (9 : Nat), sz := (1 : Nat), exact := x, fz := false, body := Body.flat (List.map (fun x => (AV.brecOn_1.go x (AV.ren._f (renX 0 [(0 : Nat)] 5)) (renL._f (renX 0 [(0 : Nat)] 5))).1) (rowsL (l ++ [b]))) }]) := by kernel_rfl

set_option maxRecDepth 100000 in
theorem rd_step (s : List UInt8) (i : Nat) (k : Nat) (n : Nat) (x : Bool) (l : List (List UInt8)) (b : List UInt8) : stepXS kQa [(51, { op := [(19, 5, .br false)], gd := [(19, 3, false), (19, 4, false)], br := [(54, true), (67, false)], ob := [(18, 4)] })] Try.prog 51 16 (prH s i k n x l b) (prH s i (k + (1 : Nat)) ((10 : Nat) * n + (UInt8.toNat (List.getD s (i + (k + (1 : Nat))) (0 : UInt8)) - (48 : Nat))) x l b) [(0 : Nat)] 0 [] =
   some (.normal,
   [decide ((↑(k + (1 : Nat)) : Int) ≤ (3 : Int)) = true,
   (0 : Int) ≤ IntKind.wrap IntKind.i64 ((↑i : Int) + (↑(k + (1 : Nat)) : Int)) ∧ Int.toNat (IntKind.wrap IntKind.i64 ((↑i : Int) + (↑(k + (1 : Nat)) : Int))) < List.length s,
   decide ((↑(UInt8.toNat (List.getD s (Int.toNat (IntKind.wrap IntKind.i64 ((↑i : Int) + (↑(k + (1 : Nat)) : Int)))) (0 : UInt8))) : Int) < (48 : Int)) = false,
   decide ((↑(UInt8.toNat (List.getD s (Int.toNat (IntKind.wrap IntKind.i64 ((↑i : Int) + (↑(k + (1 : Nat)) : Int)))) (0 : UInt8))) : Int) < (48 : Int)) = false,
   decide ((↑(UInt8.toNat (List.getD s (Int.toNat (IntKind.wrap IntKind.i64 ((↑i : Int) + (↑(k + (1 : Nat)) : Int)))) (0 : UInt8))) : Int) < (48 : Int)) = false,
   decide ((↑(UInt8.toNat (List.getD s (Int.toNat (IntKind.wrap IntKind.i64 ((↑i : Int) + (↑(k + (1 : Nat)) : Int)))) (0 : UInt8))) : Int) > (57 : Int)) = false,
   AV.val (Value.string { data := List.toArray s }) = AV.val (Value.string { data := List.toArray s }),
   AV.val (Value.int IntKind.i64 (↑i : Int)) = AV.val (Value.int IntKind.i64 (↑i : Int)),
   AV.val (Value.int IntKind.i64 (IntKind.wrap IntKind.i64 ((↑(k + (1 : Nat)) : Int) + (1 : Int)))) = AV.val (Value.int IntKind.i64 (↑(k + (1 : Nat) + (1 : Nat)) : Int)),
   AV.val (Value.int IntKind.i64 (IntKind.wrap IntKind.i64 (IntKind.wrap IntKind.i64 ((10 : Int) * (↑n : Int)) + IntKind.wrap IntKind.i64 (IntKind.wrap IntKind.u8 ((↑(UInt8.toNat (List.getD s (Int.toNat (IntKind.wrap IntKind.i64 ((↑i : Int) + (↑(k + (1 : Nat)) : Int)))) (0 : UInt8))) : Int) - (48 : Int)))))) = AV.val (Value.int IntKind.i64 (↑((10 : Nat) * n + (UInt8.toNat (List.getD s (i + (k + (1 : Nat))) (0 : UInt8)) - (48 : Nat))) : Int)),
   AV.sl (0 : Nat) (0 : Nat) (List.length l + (1 : Nat)) none = AV.sl (0 : Nat) (0 : Nat) (List.length l + (1 : Nat)) none,
   SameO (some { t := (9 : Nat), sz := (1 : Nat), exact := x, fz := false, body := Body.flat (rowsL (l ++ [b])) }) { t := (9 : Nat), sz := (1 : Nat), exact := x, fz := false, body := Body.flat (List.map (fun x => (AV.brecOn_1.go x (AV.ren._f (renX 0 [(0 : Nat)] 25)) (renL._f (renX 0 [(0 : Nat)] 25))).1) (rowsL (l ++ [b]))) }]) := by kernel_rfl

set_option maxRecDepth 100000 in
theorem rd_lo (s : List UInt8) (i : Nat) (k : Nat) (n : Nat) (x : Bool) (l : List (List UInt8)) (b : List UInt8) : stepXS kQa [(51, { op := [(19, 5, .br true)], gd := [(19, 3, true), (19, 4, true)], br := [(54, true)], ob := [(18, 4)] })] Try.prog 51 16 (prH s i k n x l b) (prN) [] 0 [] =
   some (.ret,
   [decide ((↑(k + (1 : Nat)) : Int) ≤ (3 : Int)) = true,
   (0 : Int) ≤ IntKind.wrap IntKind.i64 ((↑i : Int) + (↑(k + (1 : Nat)) : Int)) ∧ Int.toNat (IntKind.wrap IntKind.i64 ((↑i : Int) + (↑(k + (1 : Nat)) : Int))) < List.length s,
   decide ((↑(UInt8.toNat (List.getD s (Int.toNat (IntKind.wrap IntKind.i64 ((↑i : Int) + (↑(k + (1 : Nat)) : Int)))) (0 : UInt8))) : Int) < (48 : Int)) = true,
   decide ((↑(UInt8.toNat (List.getD s (Int.toNat (IntKind.wrap IntKind.i64 ((↑i : Int) + (↑(k + (1 : Nat)) : Int)))) (0 : UInt8))) : Int) < (48 : Int)) = true,
   decide ((↑(UInt8.toNat (List.getD s (Int.toNat (IntKind.wrap IntKind.i64 ((↑i : Int) + (↑(k + (1 : Nat)) : Int)))) (0 : UInt8))) : Int) < (48 : Int)) = true]) := by kernel_rfl

set_option maxRecDepth 100000 in
theorem rd_hi (s : List UInt8) (i : Nat) (k : Nat) (n : Nat) (x : Bool) (l : List (List UInt8)) (b : List UInt8) : stepXS kQa [(51, { op := [(19, 5, .br false)], gd := [(19, 3, false), (19, 4, false)], br := [(54, true), (67, true)], ob := [(18, 4)] })] Try.prog 51 16 (prH s i k n x l b) (prN) [] 0 [] =
   some (.ret,
   [decide ((↑(k + (1 : Nat)) : Int) ≤ (3 : Int)) = true,
   (0 : Int) ≤ IntKind.wrap IntKind.i64 ((↑i : Int) + (↑(k + (1 : Nat)) : Int)) ∧ Int.toNat (IntKind.wrap IntKind.i64 ((↑i : Int) + (↑(k + (1 : Nat)) : Int))) < List.length s,
   decide ((↑(UInt8.toNat (List.getD s (Int.toNat (IntKind.wrap IntKind.i64 ((↑i : Int) + (↑(k + (1 : Nat)) : Int)))) (0 : UInt8))) : Int) < (48 : Int)) = false,
   decide ((↑(UInt8.toNat (List.getD s (Int.toNat (IntKind.wrap IntKind.i64 ((↑i : Int) + (↑(k + (1 : Nat)) : Int)))) (0 : UInt8))) : Int) < (48 : Int)) = false,
   decide ((↑(UInt8.toNat (List.getD s (Int.toNat (IntKind.wrap IntKind.i64 ((↑i : Int) + (↑(k + (1 : Nat)) : Int)))) (0 : UInt8))) : Int) < (48 : Int)) = false,
   decide ((↑(UInt8.toNat (List.getD s (Int.toNat (IntKind.wrap IntKind.i64 ((↑i : Int) + (↑(k + (1 : Nat)) : Int)))) (0 : UInt8))) : Int) > (57 : Int)) = true]) := by kernel_rfl

set_option maxRecDepth 100000 in
theorem rd_end (s : List UInt8) (i : Nat) (k : Nat) (n : Nat) (x : Bool) (l : List (List UInt8)) (b : List UInt8) : stepXS kQa [(51, { br := [(54, false)] })] Try.prog 51 16 (prH s i k n x l b) (prI s i n x l b) [(0 : Nat)] 0 [] =
   some (.exit 3,
   [decide ((↑(k + (1 : Nat)) : Int) ≤ (3 : Int)) = false,
   AV.val (Value.string { data := List.toArray s }) = AV.val (Value.string { data := List.toArray s }),
   AV.val (Value.int IntKind.i64 (↑i : Int)) = AV.val (Value.int IntKind.i64 (↑i : Int)),
   AV.val (Value.int IntKind.i64 (↑n : Int)) = AV.val (Value.int IntKind.i64 (↑n : Int)),
   AV.sl (0 : Nat) (0 : Nat) (List.length l + (1 : Nat)) none = AV.sl (0 : Nat) (0 : Nat) (List.length l + (1 : Nat)) none,
   SameO (some { t := (9 : Nat), sz := (1 : Nat), exact := x, fz := false, body := Body.flat (rowsL (l ++ [b])) }) { t := (9 : Nat), sz := (1 : Nat), exact := x, fz := false, body := Body.flat (List.map (fun x => (AV.brecOn_1.go x (AV.ren._f (renX 0 [(0 : Nat)] 3)) (renL._f (renX 0 [(0 : Nat)] 3))).1) (rowsL (l ++ [b]))) }]) := by kernel_rfl

set_option maxRecDepth 100000 in
theorem rq_root (s : List UInt8) : outXS kQa [(51, { br := [(11, true)] })] Try.prog 51 [AV.val (Value.string { data := List.toArray s })] [] 0 [] [] =
   some (AV.tup [AV.val (Value.slice none (0 : Nat) (0 : Nat)), AV.val (Value.bool true)], [], 6,
   [(ByteArray.toList { data := List.toArray s } == [(46 : UInt8)]) = true]) := by kernel_rfl

set_option maxRecDepth 100000 in
theorem rq_no (s : List UInt8) : outXS kQa [(51, { br := [(11, false)] })] Try.prog 51 [AV.val (Value.string { data := List.toArray s })] [] 0 [] [(5, prL s Ex.ret prN)] =
   some (AV.tup [AV.val (Value.slice none (0 : Nat) (0 : Nat)), AV.val (Value.bool false)], [], 0,
   [(ByteArray.toList { data := List.toArray s } == [(46 : UInt8)]) = false,
   AV.val (Value.string { data := List.toArray s }) = AV.val (Value.string { data := List.toArray s }),
   AV.val (Value.int IntKind.i64 (0 : Int)) = AV.val (Value.int IntKind.i64 (0 : Int)),
   AV.sl 4 (0 : Nat) (1 : Nat) none = AV.sl (4 : Nat) (0 : Nat) (1 : Nat) none,
   SameO (some { t := (9 : Nat), sz := (1 : Nat), exact := true, fz := false, body := Body.rows [[AV.val (Value.string { data := #[] })]] }) { t := (9 : Nat), sz := (1 : Nat), exact := true, fz := false, body := Body.rows [[AV.val (Value.string { data := #[] })]] },
   EvXL Try.prog 0 (loopAt Try.prog 51 5) (GoalX.st (LoopX.G (prL s Ex.ret prN)) 0) (LoopX.ex (prL s Ex.ret prN)) (GoalX.st (LoopX.E (prL s Ex.ret prN)) 0)]) := by kernel_rfl

set_option maxRecDepth 100000 in
theorem rq_bad (s : List UInt8) (x : Bool) (l : List (List UInt8)) (b : List UInt8) : outXS kQa [(51, { op := [(26, 8, .br true)], gd := [(26, 4, true), (26, 5, true), (26, 6, true), (26, 7, true)], br := [(11, false)], ob := [(26, 1)] })] Try.prog 51 [AV.val (Value.string { data := List.toArray s })] [] 0 [] [(5, prL s (Ex.exit (0 : Nat)) (prE s x l b))] =
   some (AV.tup [AV.val (Value.slice none (0 : Nat) (0 : Nat)), AV.val (Value.bool false)], [], 12,
   [(ByteArray.toList { data := List.toArray s } == [(46 : UInt8)]) = false,
   AV.val (Value.string { data := List.toArray s }) = AV.val (Value.string { data := List.toArray s }),
   AV.val (Value.int IntKind.i64 (0 : Int)) = AV.val (Value.int IntKind.i64 (0 : Int)),
   AV.sl 4 (0 : Nat) (1 : Nat) none = AV.sl (4 : Nat) (0 : Nat) (1 : Nat) none,
   SameO (some { t := (9 : Nat), sz := (1 : Nat), exact := true, fz := false, body := Body.rows [[AV.val (Value.string { data := #[] })]] }) { t := (9 : Nat), sz := (1 : Nat), exact := true, fz := false, body := Body.rows [[AV.val (Value.string { data := #[] })]] },
   EvXL Try.prog 0 (loopAt Try.prog 51 5) (GoalX.st (LoopX.G (prL s (Ex.exit (0 : Nat)) (prE s x l b))) 0) (LoopX.ex (prL s (Ex.exit (0 : Nat)) (prE s x l b))) (GoalX.st (LoopX.E (prL s (Ex.exit (0 : Nat)) (prE s x l b))) 0),
   txtP (List.take (List.length l + (1 : Nat)) (rowsL (l ++ [b]))) ∧ (1 : Nat) = (1 : Nat) ∧ (0 : Nat) + (List.length l + (1 : Nat)) ≤ List.length (rowsL (l ++ [b])),
   True,
   (!goodN (txtL (List.take (List.length l + (1 : Nat)) (rowsL (l ++ [b]))))) = true,
   (!goodN (txtL (List.take (List.length l + (1 : Nat)) (rowsL (l ++ [b]))))) = true,
   (!goodN (txtL (List.take (List.length l + (1 : Nat)) (rowsL (l ++ [b]))))) = true,
   (!goodN (txtL (List.take (List.length l + (1 : Nat)) (rowsL (l ++ [b]))))) = true,
   (!goodN (txtL (List.take (List.length l + (1 : Nat)) (rowsL (l ++ [b]))))) = true]) := by kernel_rfl

set_option maxRecDepth 100000 in
theorem rq_text (s : List UInt8) (x : Bool) (l : List (List UInt8)) (b : List UInt8) : outXS kQa [(51, { op := [(26, 8, .br false)], gd := [(26, 4, false), (26, 5, false), (26, 6, false), (26, 7, false)], br := [(11, false), (102, true)], ob := [(26, 1), (26, 5)] })] Try.prog 51 [AV.val (Value.string { data := List.toArray s })] [] 0 [] [(5, prL s (Ex.exit (0 : Nat)) (prE s x l b))] =
   some (AV.tup [AV.val (Value.slice none (0 : Nat) (0 : Nat)), AV.val (Value.bool false)], [], 12,
   [(ByteArray.toList { data := List.toArray s } == [(46 : UInt8)]) = false,
   AV.val (Value.string { data := List.toArray s }) = AV.val (Value.string { data := List.toArray s }),
   AV.val (Value.int IntKind.i64 (0 : Int)) = AV.val (Value.int IntKind.i64 (0 : Int)),
   AV.sl 4 (0 : Nat) (1 : Nat) none = AV.sl (4 : Nat) (0 : Nat) (1 : Nat) none,
   SameO (some { t := (9 : Nat), sz := (1 : Nat), exact := true, fz := false, body := Body.rows [[AV.val (Value.string { data := #[] })]] }) { t := (9 : Nat), sz := (1 : Nat), exact := true, fz := false, body := Body.rows [[AV.val (Value.string { data := #[] })]] },
   EvXL Try.prog 0 (loopAt Try.prog 51 5) (GoalX.st (LoopX.G (prL s (Ex.exit (0 : Nat)) (prE s x l b))) 0) (LoopX.ex (prL s (Ex.exit (0 : Nat)) (prE s x l b))) (GoalX.st (LoopX.E (prL s (Ex.exit (0 : Nat)) (prE s x l b))) 0),
   txtP (List.take (List.length l + (1 : Nat)) (rowsL (l ++ [b]))) ∧ (1 : Nat) = (1 : Nat) ∧ (0 : Nat) + (List.length l + (1 : Nat)) ≤ List.length (rowsL (l ++ [b])),
   True,
   (!goodN (txtL (List.take (List.length l + (1 : Nat)) (rowsL (l ++ [b]))))) = false,
   (!goodN (txtL (List.take (List.length l + (1 : Nat)) (rowsL (l ++ [b]))))) = false,
   txtP (List.take (List.length l + (1 : Nat)) (rowsL (l ++ [b]))) ∧ (1 : Nat) = (1 : Nat) ∧ (0 : Nat) + (List.length l + (1 : Nat)) ≤ List.length (rowsL (l ++ [b])),
   lsT (txtL (List.take (List.length l + (1 : Nat)) (rowsL (l ++ [b])))),
   (!goodN (txtL (List.take (List.length l + (1 : Nat)) (rowsL (l ++ [b]))))) = false,
   (!goodN (txtL (List.take (List.length l + (1 : Nat)) (rowsL (l ++ [b]))))) = false,
   (!goodN (txtL (List.take (List.length l + (1 : Nat)) (rowsL (l ++ [b]))))) = false,
   (!ByteArray.toList { data := List.toArray (textN (txtL (List.take (List.length l + (1 : Nat)) (rowsL (l ++ [b]))))) } == ByteArray.toList { data := List.toArray s }) = true]) := by kernel_rfl

set_option maxRecDepth 100000 in
theorem rq_ok (s : List UInt8) (x : Bool) (l : List (List UInt8)) (b : List UInt8) : outXS kQa [(51, { op := [(26, 8, .br false)], gd := [(26, 4, false), (26, 5, false), (26, 6, false), (26, 7, false)], br := [(11, false), (102, false)], ob := [(26, 1), (26, 5)] })] Try.prog 51 [AV.val (Value.string { data := List.toArray s })] [] 0 [(0 : Nat)] [(5, prL s (Ex.exit (0 : Nat)) (prE s x l b))] =
   some (AV.tup [AV.sl (0 : Nat) (0 : Nat) (List.length l + (1 : Nat)) none, AV.val (Value.bool true)], [(0, { t := (9 : Nat), sz := (1 : Nat), exact := x, fz := false, body := Body.flat (rowsL (l ++ [b])) })], 13,
   [(ByteArray.toList { data := List.toArray s } == [(46 : UInt8)]) = false,
   AV.val (Value.string { data := List.toArray s }) = AV.val (Value.string { data := List.toArray s }),
   AV.val (Value.int IntKind.i64 (0 : Int)) = AV.val (Value.int IntKind.i64 (0 : Int)),
   AV.sl 4 (0 : Nat) (1 : Nat) none = AV.sl (4 : Nat) (0 : Nat) (1 : Nat) none,
   SameO (some { t := (9 : Nat), sz := (1 : Nat), exact := true, fz := false, body := Body.rows [[AV.val (Value.string { data := #[] })]] }) { t := (9 : Nat), sz := (1 : Nat), exact := true, fz := false, body := Body.rows [[AV.val (Value.string { data := #[] })]] },
   EvXL Try.prog 0 (loopAt Try.prog 51 5) (GoalX.st (LoopX.G (prL s (Ex.exit (0 : Nat)) (prE s x l b))) 0) (LoopX.ex (prL s (Ex.exit (0 : Nat)) (prE s x l b))) (GoalX.st (LoopX.E (prL s (Ex.exit (0 : Nat)) (prE s x l b))) 0),
   txtP (List.take (List.length l + (1 : Nat)) (rowsL (l ++ [b]))) ∧ (1 : Nat) = (1 : Nat) ∧ (0 : Nat) + (List.length l + (1 : Nat)) ≤ List.length (rowsL (l ++ [b])),
   True,
   (!goodN (txtL (List.take (List.length l + (1 : Nat)) (rowsL (l ++ [b]))))) = false,
   (!goodN (txtL (List.take (List.length l + (1 : Nat)) (rowsL (l ++ [b]))))) = false,
   txtP (List.take (List.length l + (1 : Nat)) (rowsL (l ++ [b]))) ∧ (1 : Nat) = (1 : Nat) ∧ (0 : Nat) + (List.length l + (1 : Nat)) ≤ List.length (rowsL (l ++ [b])),
   lsT (txtL (List.take (List.length l + (1 : Nat)) (rowsL (l ++ [b])))),
   (!goodN (txtL (List.take (List.length l + (1 : Nat)) (rowsL (l ++ [b]))))) = false,
   (!goodN (txtL (List.take (List.length l + (1 : Nat)) (rowsL (l ++ [b]))))) = false,
   (!goodN (txtL (List.take (List.length l + (1 : Nat)) (rowsL (l ++ [b]))))) = false,
   (!ByteArray.toList { data := List.toArray (textN (txtL (List.take (List.length l + (1 : Nat)) (rowsL (l ++ [b]))))) } == ByteArray.toList { data := List.toArray s }) = false]) := by kernel_rfl
end Go.Proofs.Ytmilcpejchjleaa

/- A name's text that is read the document's way: what Parse yields. -/
namespace Go.Proofs.Ytmilcpejchjleaa
open Go.RowKit
set_option linter.unusedSimpArgs false
set_option linter.unusedVariables false

theorem EvXL.eqv_in {P : Program} {n0 : Nat} {c : Code} {st st' s : St} {ex : Ex} (h : EvXL P n0 c st ex s) (hl : st'.len = st.len) (ht : st'.tm = st.tm) (hn : st'.nx = st.nx) (he : HEqv (heapF st.hp) (heapF st'.hp)) : EvXL P n0 c st' ex s := by
  obtain ⟨n, h⟩ := h
  refine ⟨n, fun E0 H0 w0 s0 E a w hx hs hr hle Q hQ => ?_⟩
  refine h E0 H0 w0 s0 E a w (hx.eqv (HEqv.refl _) (fun i => (he i).symm)) (hn ▸ hs.eqv (fun i => (he i).symm)) ⟨hr.size.trans hl, fun t => ?_⟩ (by rw [← hn]; exact hle) Q hQ
  have := hr.rep t
  unfold tmF at this ⊢
  rw [← ht]
  exact this

theorem rows_last (l : List (List UInt8)) (b : List UInt8) : (rowsL (l ++ [b]))[l.length]? = some [sStr b] := by
  simp [rowsL]
theorem rows_set (l : List (List UInt8)) (b c : List UInt8) : (rowsL (l ++ [b])).set l.length [sStr c] = rowsL (l ++ [c]) := by
  simp [rowsL, List.set_append]

theorem rd_loop (s : List UInt8) (hm : s.length ≤ 1000000) (i : Nat) (hi : i + 3 < s.length) (x : Bool) (l : List (List UInt8)) (b : List UInt8) : ∀ (j k n : Nat) (r : List UInt8), j + k = 3 → s.drop (i + (k + 1)) = r → n ≤ bnd j →
    EvXL Try.prog 0 (loopAt Try.prog 51 16) ((prH s i k n x l b).st 0) (match digN j r n with | some _ => .exit 3 | none => .ret) ((match digN j r n with | some m => prI s i m x l b | none => prN).st 0)
  | 0, k, n, r, hk, hr, hn => by
    exact EvXL.last (stepXS_ok kQa_ok (rd_end s i k n x l b) (by
      repeat' (first | exact allNil | refine allCons ?_ ?_ | (with_reducible refine allRp _ ?_ ?_))
      all_goals first | (with_reducible rfl) | exact decide_eq_false (by omega) | exact same_flat (fun _ => rfl) rfl)) (by simp [digN])
  | j + 1, k, n, [], hk, hr, hn => by
    have : s.length ≤ i + (k + 1) := by simpa using hr
    omega
  | j + 1, k, n, d :: r, hk, hr, hn => by
    obtain ⟨h1, g1, r1⟩ := dropStepB hr
    have hd := d.toNat_lt
    have hn9 : n ≤ 999 := by
      have : j + 1 = 1 ∨ j + 1 = 2 ∨ j + 1 = 3 := by omega
      rcases this with h | h | h <;> rw [h] at hn <;> simp only [bnd] at hn <;> omega
    unfold digN
    by_cases h : 48 ≤ d.toNat ∧ d.toNat ≤ 57
    · rw [if_pos h]
      refine EvXL.step (stepXS_ok kQa_ok (rd_step s i k n x l b) ?_) (by
        rw [g1]
        exact rd_loop s hm i hi x l b j (k + 1) _ r (by omega) r1 (bnd_step (by omega) hn (by omega)))
      have w1 : IntKind.wrap IntKind.u8 ((d.toNat : Nat) - (48 : Int)) = ((d.toNat - 48 : Nat) : Int) := by rw [wu8]; omega
      simp only [wNat (z := (i : Int) + ((k + 1 : Nat) : Int)) (i + (k + 1)) (by omega) (by omega), Int.toNat_natCast, g1, w1, wNat (z := (10 : Int) * (n : Int)) (10 * n) (by omega) (by omega), wNat (z := ((d.toNat - 48 : Nat) : Int)) (d.toNat - 48) (by omega) (by omega), wNat (z := ((10 * n : Nat) : Int) + ((d.toNat - 48 : Nat) : Int)) (10 * n + (d.toNat - 48)) (by omega) (by omega)]
      repeat' (first | exact allNil | refine allCons ?_ ?_ | (with_reducible refine allRp _ ?_ ?_))
      all_goals first | (with_reducible rfl) | exact True.intro | exact decide_eq_true (by omega) | exact decide_eq_false (by omega) | exact sI_succ (k + 1) (by omega) | omega | exact same_flat (fun _ => rfl) rfl
    · rw [if_neg h]
      by_cases h4 : d.toNat < 48
      · exact EvXL.last (stepXS_ok kQa_ok (rd_lo s i k n x l b) (by
          simp only [wNat (z := (i : Int) + ((k + 1 : Nat) : Int)) (i + (k + 1)) (by omega) (by omega), Int.toNat_natCast, g1]
          repeat' (first | exact allNil | refine allCons ?_ ?_ | (with_reducible refine allRp _ ?_ ?_))
          all_goals first | (with_reducible rfl) | exact True.intro | exact decide_eq_true (by omega) | exact decide_eq_false (by omega) | omega)) (by simp)
      · exact EvXL.last (stepXS_ok kQa_ok (rd_hi s i k n x l b) (by
          simp only [wNat (z := (i : Int) + ((k + 1 : Nat) : Int)) (i + (k + 1)) (by omega) (by omega), Int.toNat_natCast, g1]
          repeat' (first | exact allNil | refine allCons ?_ ?_ | (with_reducible refine allRp _ ?_ ?_))
          all_goals first | (with_reducible rfl) | exact True.intro | exact decide_eq_true (by omega) | exact decide_eq_false (by omega) | omega)) (by simp)

def rX : Option (List (List UInt8) × List UInt8) → Ex
  | none => .ret
  | some _ => .exit 0
def rY (s : List UInt8) : Option (List (List UInt8) × List UInt8) → GoalX
  | none => prN
  | some p => prE s (decide (p.1 = [])) p.1 p.2

theorem rpx_last (s : List UInt8) (i : Nat) (x : Bool) (l : List (List UInt8)) (b : List UInt8) (h : s.length ≤ i) : EvX Try.prog 0 (loopAt Try.prog 51 5) ((prG s i x l b).st 0) (.exit 0) ((prE s x l b).st 0) :=
  stepXS_ok kQa_ok (rpx_end s i x l b) (by
    repeat' (first | exact allNil | refine allCons ?_ ?_ | (with_reducible refine allRp _ ?_ ?_))
    all_goals first | (with_reducible rfl) | exact decide_eq_false (by omega) | exact same_flat (fun _ => rfl) rfl)

theorem rpx_loop (s : List UInt8) (hs : s.length ≤ 900000) : ∀ (k i : Nat) (l : List (List UInt8)) (b : List UInt8), s.length ≤ i + k → i ≤ s.length → l.length ≤ i → b.length ≤ i →
    EvXL Try.prog 0 (loopAt Try.prog 51 5) ((prG s i (decide (l = [])) l b).st 0) (rX (cutF k (s.drop i) b l)) ((rY s (cutF k (s.drop i) b l)).st 0) := by
  intro k
  induction k with
  | zero =>
    intro i l b hk hi hl hb
    have e : s.drop i = [] := List.drop_of_length_le (by omega)
    rw [e, cutF_zero]
    exact EvXL.last (rpx_last s i _ l b (by omega)) (by simp [rX])
  | succ k ih =>
    intro i l b hk hi hl hb
    by_cases h : s.length ≤ i
    · have e : s.drop i = [] := List.drop_of_length_le h
      rw [e, cutF_zero]
      exact EvXL.last (rpx_last s i _ l b (by omega)) (by simp [rX])
    · have hlt : i < s.length := by omega
      have hc := (s.getD i 0).toNat_lt
      have ed : s.drop i = s.getD i 0 :: s.drop (i + 1) := by
        rw [List.drop_eq_getElem_cons hlt, List.getD_eq_getElem?_getD, List.getElem?_eq_getElem hlt]
        rfl
      rw [ed, cutF]
      have w1 : IntKind.wrap IntKind.i64 (((l.length + 1 : Nat) : Int) - (1 : Int)) = ((l.length : Nat) : Int) := by rw [w64 _ (by omega)]; omega
      have rl := rows_last l b
      have z0 : 0 + l.length = l.length := Nat.zero_add _
      by_cases h1 : (s.getD i 0).toNat = 46
      · rw [if_pos h1]
        have := ih (i + 1) (l ++ [b]) [] (by omega) (by omega) (by simp; omega) (by simp)
        have ex : decide (l ++ [b] = []) = false := by simp
        rw [ex] at this
        refine EvXL.step (stepXS_ok kQa_ok (rpx_dot s i (decide (l = [])) l b) ?_) this
        repeat' (first | exact allNil | refine allCons ?_ ?_ | (with_reducible refine allRp _ ?_ ?_))
        all_goals first | (with_reducible rfl) | exact decide_eq_true (by omega) | omega | exact beq_iff_eq.2 (by omega) | exact sI_succ i (by omega) | exact same_flat (fun _ => rfl) (by simp [rowsL, sStr]) | (simp [rowsL]; done) | (simp; omega)
      · rw [if_neg h1]
        by_cases h2 : (s.getD i 0).toNat = 92
        · rw [if_pos h2]
          have w3 : IntKind.wrap IntKind.i64 ((i : Int) + (3 : Int)) = ((i + 3 : Nat) : Int) := wNat (i + 3) (by omega) (by omega)
          have w4 : IntKind.wrap IntKind.i64 (((i + 3 : Nat) : Int) + (1 : Int)) = ((i + 4 : Nat) : Int) := wNat (i + 4) (by omega) (by omega)
          by_cases h5 : s.length ≤ i + 3
          · have hb3 : byB (s.drop (i + 1)) = false := by
              cases hb3 : byB (s.drop (i + 1)) with
              | false => rfl
              | true =>
                have := byB_len hb3
                rw [List.length_drop] at this
                omega
            rw [hb3, if_neg (by simp)]
            refine EvXL.last (stepXS_ok kQa_ok (rpx_short s i (decide (l = [])) l b) ?_) (by simp [rX])
            simp only [w3]
            repeat' (first | exact allNil | refine allCons ?_ ?_ | (with_reducible refine allRp _ ?_ ?_))
            all_goals first | (with_reducible rfl) | exact True.intro | exact decide_eq_true (by omega) | omega | exact beq_iff_eq.2 (by omega) | exact beq_eq_false_iff_ne.2 (by omega)
          · have hin := rd_loop s (by omega) i (by omega) (decide (l = [])) l b 3 0 0 (s.drop (i + 1)) rfl rfl (Nat.le_refl _)
            cases hd : digN 3 (s.drop (i + 1)) 0 with
            | none =>
              rw [hd] at hin
              have hb3 : byB (s.drop (i + 1)) = false := by unfold byB; rw [hd]
              rw [hb3, if_neg (by simp)]
              refine EvXL.last (stepXS_ok kQa_ok (rpx_bad s i (decide (l = [])) l b) ?_) (by simp [rX])
              simp only [w3]
              repeat' (first | exact allNil | refine allCons ?_ ?_ | (with_reducible refine allRp _ ?_ ?_))
              all_goals first | (with_reducible rfl) | exact hin | exact True.intro | exact decide_eq_true (by omega) | exact decide_eq_false (by omega) | omega | exact beq_iff_eq.2 (by omega) | exact beq_eq_false_iff_ne.2 (by omega) | exact same_flat (fun _ => rfl) rfl
            | some n =>
              rw [hd] at hin
              by_cases hn : n < 256
              · have hb3 : byB (s.drop (i + 1)) = true := by unfold byB; rw [hd]; exact decide_eq_true hn
                have hc3 : byC (s.drop (i + 1)) = n := by unfold byC; rw [hd]; exact Nat.mod_eq_of_lt hn
                rw [hb3, if_pos rfl, hc3]
                have := ih (i + 4) l (b ++ [UInt8.ofNat n]) (by omega) (by omega) (by omega) (by simp; omega)
                have e4 : (s.drop (i + 1)).drop 3 = s.drop (i + 4) := by rw [List.drop_drop]
                rw [e4]
                refine EvXL.step (stepXS_ok kQa_ok (rpx_esc s i (decide (l = [])) l b n) ?_) this
                have wn : IntKind.wrap IntKind.u8 (n : Int) = (n : Int) := by rw [wu8]; omega
                simp only [w3, w4, w1, wn, Int.toNat_natCast, z0, rl, textB_mk]
                repeat' (first | exact allNil | refine allCons ?_ ?_ | (with_reducible refine allRp _ ?_ ?_))
                all_goals first | (with_reducible rfl) | exact hin | exact True.intro | exact decide_eq_true (by omega) | exact decide_eq_false (by omega) | omega | exact beq_iff_eq.2 (by omega) | exact beq_eq_false_iff_ne.2 (by omega) | exact same_flat (fun _ => rfl) rfl | exact same_flat (fun _ => rfl) (rows_set l b _) | (intro y hy; rw [List.mem_singleton.1 hy]; exact ⟨by omega, by omega⟩) | exact rfl | (simp [textB]; omega)
              · have hb3 : byB (s.drop (i + 1)) = false := by unfold byB; rw [hd]; exact decide_eq_false hn
                rw [hb3, if_neg (by simp)]
                refine EvXL.last (stepXS_ok kQa_ok (rpx_big s i (decide (l = [])) l b n) ?_) (by simp [rX])
                simp only [w3]
                repeat' (first | exact allNil | refine allCons ?_ ?_ | (with_reducible refine allRp _ ?_ ?_))
                all_goals first | (with_reducible rfl) | exact hin | exact True.intro | exact decide_eq_true (by omega) | exact decide_eq_false (by omega) | omega | exact beq_iff_eq.2 (by omega) | exact beq_eq_false_iff_ne.2 (by omega) | exact same_flat (fun _ => rfl) rfl
        · rw [if_neg h2]
          have := ih (i + 1) l (b ++ [s.getD i 0]) (by omega) (by omega) (by omega) (by simp; omega)
          refine EvXL.step (stepXS_ok kQa_ok (rpx_chr s i (decide (l = [])) l b) ?_) this
          simp only [wNat (z := (i : Int) + (1 : Int)) (i + 1) (by omega) (by omega), w1, Int.toNat_natCast, z0, rl, textB_ext s i hlt, textB_mk]
          repeat' (first | exact allNil | refine allCons ?_ ?_ | (with_reducible refine allRp _ ?_ ?_))
          all_goals first | (with_reducible rfl) | exact True.intro | exact decide_eq_true (by omega) | exact decide_eq_false (by omega) | omega | exact beq_iff_eq.2 (by omega) | exact beq_eq_false_iff_ne.2 (by omega) | exact same_flat (fun _ => rfl) rfl | exact same_flat (fun _ => rfl) (rows_set l b _) | exact rfl | (simp [textB]; omega) | (simp; omega)

/-- the loop, from where the function begins -/
theorem rpx_start (s : List UInt8) (hs : s.length ≤ 900000) : EvXL Try.prog 0 (loopAt Try.prog 51 5) ((prG0 s).st 0) (rX (cutW s)) ((rY s (cutW s)).st 0) := by
  have h := rpx_loop s hs s.length 0 [] [] (by omega) (by omega) (by simp) (by simp)
  rw [List.drop_zero] at h
  refine h.eqv_in rfl rfl rfl ?_
  show HEqv (heapF (treeH _)) (heapF (treeH _))
  rw [treeH_ok, treeH_ok]
  exact HLEqv.hp _ _ ⟨rfl, ⟨rfl, rfl, rfl, rfl, rfl, fun _ _ => rfl⟩, trivial⟩

theorem rparse_root (s : List UInt8) (h : s = [46]) : ACall Try.prog 51 [sStr s] [] 0 (.tup [nilS, .val (.bool true)]) [] 28 := by
  refine (outXS_ok kQa_ok (rq_root s) ?_).upTo (by decide)
  rw [str_list]
  repeat' (first | exact allNil | refine allCons ?_ ?_)
  all_goals exact beq_iff_eq.2 h

theorem cnt' {a : List (List UInt8)} {z : Nat} (h : goodF z a = true) : a.length ≤ 130 := by
  rcases goodF_count z a h with h | h
  · omega
  · subst h; simp

theorem goodN_T {ls : List (List UInt8)} (h : goodN ls = true) : lsT ls := by
  have h1 := cnt' h
  have h2 := (goodF_enc 1 ls h (by decide)).2
  refine ⟨by omega, fun i => ?_⟩
  rw [List.getD_eq_getElem?_getD]
  by_cases hi : i < ls.length
  · rw [List.getElem?_eq_getElem hi, Option.getD_some]
    have := h2 _ (List.getElem_mem hi)
    omega
  · rw [List.getElem?_eq_none (by omega)]
    simp

theorem rparse_bad (s : List UInt8) (h : s ≠ [46]) (hs : s.length ≤ 900000) (hp : parO s = false) : ACall Try.prog 51 [sStr s] [] 0 (.tup [nilS, .val (.bool false)]) [] 28 := by
  have h1 : (s == [46]) = false := by simpa using h
  have hl := rpx_start s hs
  cases hc : cutW s with
  | none =>
    rw [hc] at hl
    refine (outXS_ok kQa_ok (rq_no s) ?_).upTo (by decide)
    simp only [str_list]
    repeat' (first | exact allNil | refine allCons ?_ ?_)
    all_goals first | exact h1 | exact hl | (with_reducible rfl) | exact True.intro | exact rfl
  | some p =>
    rw [hc] at hl
    obtain ⟨l, b⟩ := p
    have hl2 : EvXL Try.prog 0 (loopAt Try.prog 51 5) ((prG0 s).st 0) (.exit 0) ((prE s (decide (l = [])) l b).st 0) := hl
    have hL : labL s = l ++ [b] := by unfold labL; rw [hc]
    have hlen : (l ++ [b]).length = l.length + 1 := by simp
    have ht := txtP_take (l ++ [b])
    have ht2 := txtL_take (l ++ [b])
    rw [hlen] at ht ht2
    cases hg : goodN (l ++ [b]) with
    | false =>
      refine (outXS_ok kQa_ok (rq_bad s (decide (l = [])) l b) ?_).upTo (by decide)
      simp only [str_list, ht2]
      repeat' (first | exact allNil | refine allCons ?_ ?_)
      all_goals first | exact h1 | exact hl2 | (with_reducible rfl) | exact True.intro | exact ht | exact ⟨ht.1, True.intro, ht.2.2⟩ | (simp [hg]; done) | exact rfl
    | true =>
      have h2 : (textN (l ++ [b]) == s) = false := by
        unfold parO labO at hp
        rw [hc, hL, hg] at hp
        simpa using hp
      have hT := goodN_T hg
      refine (outXS_ok kQa_ok (rq_text s (decide (l = [])) l b) ?_).upTo (by decide)
      simp only [str_list, ht2]
      repeat' (first | exact allNil | refine allCons ?_ ?_)
      all_goals first | exact h1 | exact hl2 | (with_reducible rfl) | exact True.intro | exact ht | exact ⟨ht.1, True.intro, ht.2.2⟩ | exact hT | (simp [hg]; done) | (rw [h2]; rfl) | exact rfl

theorem rparse_ok (s : List UInt8) (h : s ≠ [46]) (hs : s.length ≤ 900000) (hp : parO s = true) : ACall Try.prog 51 [sStr s] [] 0 (.tup [.sl 0 0 (labL s).length none, .val (.bool true)]) [(0, prO (decide ((labL s).length = 1)) (labL s))] 13 := by
  have h1 : (s == [46]) = false := by simpa using h
  have hl := rpx_start s hs
  unfold parO at hp
  simp only [Bool.and_eq_true] at hp
  obtain ⟨⟨ho, hg⟩, h2⟩ := hp
  obtain ⟨p, hc⟩ : ∃ p, cutW s = some p := Option.isSome_iff_exists.1 ho
  rw [hc] at hl
  obtain ⟨l, b⟩ := p
  have hl2 : EvXL Try.prog 0 (loopAt Try.prog 51 5) ((prG0 s).st 0) (.exit 0) ((prE s (decide (l = [])) l b).st 0) := hl
  have hL : labL s = l ++ [b] := by unfold labL; rw [hc]
  have hlen : (l ++ [b]).length = l.length + 1 := by simp
  have ht := txtP_take (l ++ [b])
  have ht2 := txtL_take (l ++ [b])
  rw [hlen] at ht ht2
  rw [hL] at hg h2 ⊢
  have hT := goodN_T hg
  have hh := outXS_ok kQa_ok (rq_ok s (decide (l = [])) l b) (by
    simp only [str_list, ht2]
    repeat' (first | exact allNil | refine allCons ?_ ?_)
    all_goals first | exact h1 | exact hl2 | (with_reducible rfl) | exact True.intro | exact ht | exact ⟨ht.1, True.intro, ht.2.2⟩ | exact hT | (simp [hg]; done) | (rw [h2]; rfl) | exact rfl)
  have hx : decide ((l ++ [b]).length = 1) = decide (l = []) := by
    cases l with
    | nil => rfl
    | cons c r => simp
  rw [hx, hlen]
  exact hh

/-- the document's Parse, known: the root, refused, or a list -/
def kRParse (way : Nat) : Inl := fun g xs L nx =>
  if g = 51 then
    match xs with
    | [x] =>
      if L.all (fun q => decide (q.1 < nx)) = true then
        if way = 0 then some (.tup [nilS, .val (.bool true)], L, nx + 28, [x = sStr (strB [x]), strB [x] = [46]])
        else if way = 1 then some (.tup [nilS, .val (.bool false)], L, nx + 28, [x = sStr (strB [x]), strB [x] ≠ [46], (strB [x]).length ≤ 900000, parO (strB [x]) = false])
        else some (.tup [.sl nx 0 (labL (strB [x])).length none, .val (.bool true)], (nx, prO (decide ((labL (strB [x])).length = 1)) (labL (strB [x]))) :: L, nx + 13, [x = sStr (strB [x]), strB [x] ≠ [46], (strB [x]).length ≤ 900000, parO (strB [x]) = true])
      else none
    | _ => none
  else none
theorem ren_prO (r : Nat → Nat) (x : Bool) (es : List (List UInt8)) : (prO x es).ren r = prO x es := by
  show (⟨9, 1, x, false, .flat ((rowsL es).map (renL r))⟩ : AObj) = _
  rw [ren_rows]
  rfl
theorem kRParse_ok (way : Nat) : InlOk Try.prog (kRParse way) := by
  intro g xs L nx v L' nx' q h hq
  unfold kRParse at h
  split at h
  · rename_i hg
    subst hg
    split at h
    · rename_i x
      split at h
      · rename_i hlt
        split at h
        · simp only [Option.some.injEq, Prod.mk.injEq] at h
          obtain ⟨rfl, rfl, rfl, rfl⟩ := h
          simp only [List.forall_mem_cons, List.not_mem_nil, false_implies, implies_true, and_true] at hq
          obtain ⟨q1, q2⟩ := hq
          generalize strB [x] = s at *
          subst q1
          have := (rparse_root s q2).fresh' (L := L) (nx := nx) (by rfl) (by rfl) (FrsL.cons (.free fun r => rfl) FrsL.nil) hlt
          exact ⟨this, by omega⟩
        · split at h
          · simp only [Option.some.injEq, Prod.mk.injEq] at h
            obtain ⟨rfl, rfl, rfl, rfl⟩ := h
            simp only [List.forall_mem_cons, List.not_mem_nil, false_implies, implies_true, and_true] at hq
            obtain ⟨q1, q2, q3, q4⟩ := hq
            generalize strB [x] = s at *
            subst q1
            have := (rparse_bad s q2 q3 q4).fresh' (L := L) (nx := nx) (by rfl) (by rfl) (FrsL.cons (.free fun r => rfl) FrsL.nil) hlt
            exact ⟨this, by omega⟩
          · simp only [Option.some.injEq, Prod.mk.injEq] at h
            obtain ⟨rfl, rfl, rfl, rfl⟩ := h
            simp only [List.forall_mem_cons, List.not_mem_nil, false_implies, implies_true, and_true] at hq
            obtain ⟨q1, q2, q3, q4⟩ := hq
            generalize strB [x] = s at *
            subst q1
            have hpl : ([(0, prO (decide ((labL s).length = 1)) (labL s))] : List (Nat × AObj)).all (fun p => p.2.plB 9) = true := by
              simp [AObj.plB, prO, rowsL, AV.plB, sStr]
            have := (rparse_ok s q2 q3 q4).fresh' (L := L) (nx := nx) (by rfl) hpl (FrsL.cons (.free fun r => rfl) FrsL.nil) hlt
            refine ⟨?_, by omega⟩
            simpa [AV.ren, renL, renH, ren_prO, plus, nilS, iI] using this
      · cases h
    · cases h
  · cases h
def kT20 (way : Nat) : Inl := orInl (kRParse way) (orInl kRSame (orInl kRText (kB way)))
theorem kT20_ok (way : Nat) : InlOk Try.prog (kT20 way) := orInl_ok (kRParse_ok way) (orInl_ok kRSame_ok (orInl_ok kRText_ok (kB_ok way)))
def kT20a : Inl := kT20 0
def kT20b : Inl := kT20 1
def kT20c : Inl := kT20 2
end Go.Proofs.Ytmilcpejchjleaa
