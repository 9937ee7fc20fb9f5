/- Several texts in one: Ar0, ArRun, ArLaw, AsRun, AsLaw. -/
import Derived.Test.YtmilcpejchjleaaMap
import Derived.Test.YtmilcpejchjleaaMez
import Derived.Test.YtmilcpejchjleaaMxe

/- The law AskPorts: what its loops say at their heads. -/
namespace Go.Proofs.Ytmilcpejchjleaa
open Go.RowKit

def seqW (n : Nat) (x : Nat → Int) : AV := .view 1 n fun k => [iU (x k)]
/-- the number that a draw makes -/
def idR (d : Int) : Int := IntKind.wrap .i64 (bits .and .u32 d 65535)
def iRows (l : List (Nat × Int × Int)) : List (List AV) := l.map fun x => [iI x.2.2]
theorem iRows_len (l : List (Nat × Int × Int)) : (iRows l).length = l.length := List.length_map _
theorem iRows_get {l : List (Nat × Int × Int)} {i : Nat} {x : Nat × Int × Int} (h : l[i]? = some x) : (iRows l)[i]? = some [iI x.2.2] := by
  unfold iRows; rw [List.getElem?_map, h]; rfl
theorem iRows_app (l k : List (Nat × Int × Int)) : iRows (l ++ k) = iRows l ++ iRows k := List.map_append
def iObj (l : List (Nat × Int × Int)) : AObj := ⟨3, 1, false, false, .flat (iRows l)⟩
def sendO (i : Nat) (e p : Int) : AObj := objOne 59 [.val (.bool true), wB 0, wB 0, wB 0, wB 0, wB 0, wB 0, wB 0, wB 0, wB 0, wB 0, iI 0, iI p, iI e, iI 256, vQ [kq i], nilS, nilS, nilS]
def arG0 (n : Nat) (x : Nat → Int) : GoalX := { len := 91, tms := [(3, .ptr 0 0 0)], opn := [(0, seqW n x), (5, nilS), (6, sI 0)], oob := [(0, askZ 1), (1, c64)], k := 2 }
def arG (n : Nat) (x : Nat → Int) (i : Nat) (l : List (Nat × Int × Int)) : GoalX := { len := 91, tms := [(3, .ptr 0 0 0)], opn := [(0, seqW n x), (5, .sl 3 0 l.length none), (6, sI i)], oob := [(0, askO l.length 1 2), (1, wObj l), (2, c64), (3, iObj l)], k := 4 }
def wObj1 (y : Nat × Int × Int) : AObj := objAppR 125 20 [qrow y]
def iObj1 (y : Nat × Int × Int) : AObj := objAppR 3 1 [[iI y.2.2]]
def arG1 (n : Nat) (x : Nat → Int) (y : Nat × Int × Int) : GoalX := { len := 91, tms := [(3, .ptr 0 0 0)], opn := [(0, seqW n x), (5, .sl 3 0 1 none), (6, sI 1)], oob := [(0, askO 1 1 2), (1, wObj1 y), (2, c64), (3, iObj1 y)], k := 4 }
def arE : GoalX := { len := 91 }
def arL (n : Nat) (x : Nat → Int) (a b : Nat) : LoopX := { ids := [a, b], G := arG0 n x, ex := .exit 0, E := arE }
/-- the inner loop: the port is none of those that were had -/
def inG (n : Nat) (x : Nat → Int) (i : Nat) (l m : List (Nat × Int × Int)) (e p : Int) (k : Nat) : GoalX := { len := 91, tms := [(3, .ptr 0 0 0), (7, .ptr 4 0 0)], opn := [(0, seqW n x), (5, .sl 3 0 l.length none), (6, sI i), (9, sI k)], oob := [(0, askO m.length 1 2), (1, wObj m), (2, c64), (3, iObj l), (4, sendO i e p)], k := 5 }
def inE (n : Nat) (x : Nat → Int) (i : Nat) (l m : List (Nat × Int × Int)) (e p : Int) : GoalX := { len := 91, tms := [(3, .ptr 0 0 0), (7, .ptr 4 0 0)], opn := [(0, seqW n x), (5, .sl 3 0 l.length none), (6, sI i)], oob := [(0, askO m.length 1 2), (1, wObj m), (2, c64), (3, iObj l), (4, sendO i e p)], k := 5 }
def inL (n : Nat) (x : Nat → Int) (i : Nat) (l m : List (Nat × Int × Int)) (e p : Int) (a b : Nat) : LoopX := { ids := [0, a, 2, 3, b], G := inG n x i l m e p 0, ex := .exit 2, E := inE n x i l m e p }
end Go.Proofs.Ytmilcpejchjleaa

/- The law AskPorts (runs of its rounds). No condition. -/
namespace Go.Proofs.Ytmilcpejchjleaa
open Go.RowKit

set_option maxRecDepth 100000 in
theorem ar_first (n : Nat) (x : Nat → Int) : stepXS kPo [(75, { ob := [(3, 5)] }),
   (7, { op := [(16, 7, .br false), (16, 19, .br false)], gd := [(16, 4, false), (16, 5, false), (16, 6, false), (16, 9, false), (16, 10, false), (16, 11, false), (16, 12, false), (16, 13, false), (16, 14, false), (16, 15, false), (16, 16, false), (16, 17, false), (16, 18, false)], br := [(24, true), (72, false)], ob := [(12, 8), (16, 14)] }),
   (116, { ob := [(1, 2)] })] Try.prog 7 10 (arG0 n x) (arG1 n x (0, idR (x 0), (20000 : Int) + (↑(stP (x 0)) : Int))) [0, 169, 1, 230] 0 [] =
   some (.normal,
   (decide ((0 : Int) < (↑n : Int)) = true) ::
   ((0 : Int) = (0 : Int)) ::
   ((0 : Int) ≤ (0 : Int)) ::
   ((0 : Int) < (128 : Int)) ::
   ((0 : Int) ≤ (0 : Int) ∧ (0 : Int) < (↑n : Int)) ::
   rp 2 (AV.agg [AV.val (Value.int IntKind.i64 (0 : Int)), AV.val (Value.int IntKind.i64 (256 : Int)), vQ [kq (Int.toNat (0 : Int))], AV.val (Value.slice none 0 0), AV.val (Value.slice none 0 0), AV.val (Value.slice none 0 0)] = AV.agg [AV.val (Value.int IntKind.i64 (0 : Int)), AV.val (Value.int IntKind.i64 (256 : Int)), vQ [kq (Int.toNat (0 : Int))], AV.val (Value.slice none 0 0), AV.val (Value.slice none 0 0), AV.val (Value.slice none 0 0)]) (
   rp 4 (decide (IntKind.wrap IntKind.i64 ((20000 : Int) + Int.tmod (IntKind.wrap IntKind.i64 (Int.fdiv (x 0) (65536 : Int))) (10000 : Int)) < (20000 : Int)) = false) (
   rp 6 (decide (IntKind.wrap IntKind.i64 ((20000 : Int) + Int.tmod (IntKind.wrap IntKind.i64 (Int.fdiv (x 0) (65536 : Int))) (10000 : Int)) > (29999 : Int)) = false) (
   ((0 : Int) ≤ (0 : Int) ∧ (0 : Int) < (↑n : Int)) ::
   rp 5 (decide (IntKind.wrap IntKind.i64 ((20000 : Int) + Int.tmod (IntKind.wrap IntKind.i64 (Int.fdiv (x 0) (65536 : Int))) (10000 : Int)) > (29999 : Int)) = false) (
   ((IntKind.wrap IntKind.i64 (bits BinOp.and IntKind.u32 (x 0) (65535 : Int)) != IntKind.wrap IntKind.i64 (bits BinOp.and IntKind.u32 (x 0) (65535 : Int))) = false) ::
   ((AV.view 1 n fun k => [AV.val (Value.int IntKind.u32 (x k))]) = AV.view 1 n fun i => [AV.val (Value.int IntKind.u32 (x i))]) ::
   (AV.sl 230 0 1 none = AV.sl 230 0 1 none) ::
   (AV.val (Value.int IntKind.i64 (1 : Int)) = AV.val (Value.int IntKind.i64 (1 : Int))) ::
   (SameO (some { t := 121, sz := 3, exact := true, fz := false, body := Body.rows [[AV.val (Value.int IntKind.i64 (32 : Int)), AV.sl 169 0 1 none, AV.ptr 1 0 0]] }) { t := 121, sz := 3, exact := true, fz := false, body := Body.rows [[AV.val (Value.int IntKind.i64 (32 : Int)), AV.sl 169 0 1 none, AV.ptr 1 0 0]] }) ::
   (SameO (some { t := 125, sz := 20, exact := false, fz := false, body := Body.rows [[AV.val (Value.int IntKind.i64 (0 : Int)), AV.val (Value.int IntKind.i64 (256 : Int)), vQ [kq (Int.toNat (0 : Int))], AV.val (Value.slice none 0 0), AV.val (Value.slice none 0 0), AV.val (Value.slice none 0 0), AV.val (Value.int IntKind.u8 (2 : Int)), AV.val (Value.int IntKind.u8 (0 : Int)), AV.val (Value.int IntKind.u8 (0 : Int)), AV.val (Value.int IntKind.u8 (0 : Int)), AV.val (Value.int IntKind.u8 (0 : Int)), AV.val (Value.int IntKind.u8 (0 : Int)), AV.val (Value.int IntKind.u8 (10 : Int)), AV.val (Value.int IntKind.u8 (0 : Int)), AV.val (Value.int IntKind.u8 (0 : Int)), AV.val (Value.int IntKind.u8 (0 : Int)), AV.val (Value.int IntKind.i64 (1000 : Int)), AV.val (Value.int IntKind.i64 (IntKind.wrap IntKind.i64 (bits BinOp.and IntKind.u32 (x 0) (65535 : Int)))), AV.val (Value.int IntKind.i64 (IntKind.wrap IntKind.i64 ((20000 : Int) + Int.tmod (IntKind.wrap IntKind.i64 (Int.fdiv (x 0) (65536 : Int))) (10000 : Int)))), AV.val (Value.int IntKind.i64 (0 : Int))]] }) { t := 125, sz := 20, exact := false, fz := false, body := Body.rows [[AV.val (Value.int IntKind.i64 (0 : Int)), AV.val (Value.int IntKind.i64 (256 : Int)), vQ [kq (Prod.fst (0, idR (x 0), (20000 : Int) + (↑(stP (x 0)) : Int)))], AV.val (Value.slice none 0 0), AV.val (Value.slice none 0 0), AV.val (Value.slice none 0 0), AV.val (Value.int IntKind.u8 (2 : Int)), AV.val (Value.int IntKind.u8 (0 : Int)), AV.val (Value.int IntKind.u8 (0 : Int)), AV.val (Value.int IntKind.u8 (0 : Int)), AV.val (Value.int IntKind.u8 (0 : Int)), AV.val (Value.int IntKind.u8 (0 : Int)), AV.val (Value.int IntKind.u8 (10 : Int)), AV.val (Value.int IntKind.u8 (0 : Int)), AV.val (Value.int IntKind.u8 (0 : Int)), AV.val (Value.int IntKind.u8 (0 : Int)), AV.val (Value.int IntKind.i64 (1000 : Int)), AV.val (Value.int IntKind.i64 (idR (x 0))), AV.val (Value.int IntKind.i64 ((20000 : Int) + (↑(stP (x 0)) : Int))), AV.val (Value.int IntKind.i64 (0 : Int))]] }) ::
   (SameO (some { t := 109, sz := 2, exact := true, fz := false, body := Body.rows [[AV.val (Value.int IntKind.i64 (64 : Int)), AV.val (Value.slice none 0 0)]] }) { t := 109, sz := 2, exact := true, fz := false, body := Body.rows [[AV.val (Value.int IntKind.i64 (64 : Int)), AV.val (Value.slice none 0 0)]] }) ::
   (SameO (some { t := 3, sz := 1, exact := false, fz := false, body := Body.rows [[AV.val (Value.int IntKind.i64 (IntKind.wrap IntKind.i64 ((20000 : Int) + Int.tmod (IntKind.wrap IntKind.i64 (Int.fdiv (x 0) (65536 : Int))) (10000 : Int))))]] }) { t := 3, sz := 1, exact := false, fz := false, body := Body.rows [[AV.val (Value.int IntKind.i64 ((20000 : Int) + (↑(stP (x 0)) : Int)))]] }) :: []))))) := by kernel_rfl

set_option maxRecDepth 100000 in
theorem ar_grow (n : Nat) (x : Nat → Int) (i : Nat) (l : List (Nat × Int × Int)) (m : List (Nat × Int × Int)) (e : Int) (p : Int) : stepXS kPo [(7, { op := [(16, 7, .br false), (16, 19, .br false)], gd := [(16, 4, false), (16, 5, false), (16, 6, false), (16, 9, false), (16, 10, false), (16, 11, false), (16, 12, false), (16, 13, false), (16, 14, false), (16, 15, false), (16, 16, false), (16, 17, false), (16, 18, false)], br := [(24, true), (49, false), (72, false)], ob := [(12, 8), (16, 14), (23, 4)] }),
   (34, { op := [(10, 8, .keep)], br := [(63, false)], ob := [(10, 8), (11, 7)] })] Try.prog 7 10 (arG n x i l) (arG n x (i + 1) m) [0, 1, 2, 9] 0 [(19, inL n x i l m e p 239 22)] =
   some (.normal,
   (decide ((↑i : Int) < (↑n : Int)) = true) ::
   ((↑i : Int) = (↑i : Int)) ::
   ((0 : Int) ≤ (↑i : Int)) ::
   ((↑i : Int) < (128 : Int)) ::
   ((0 : Int) ≤ (↑i : Int) ∧ (↑i : Int) < (↑n : Int)) ::
   (decide ((↑(List.length l) : Int) ≥ (32 : Int)) = false) ::
   (AV.agg [AV.val (Value.int IntKind.i64 (↑i : Int)), AV.val (Value.int IntKind.i64 (256 : Int)), vQ [kq (Int.toNat (↑i : Int))], AV.val (Value.slice none 0 0), AV.val (Value.slice none 0 0), AV.val (Value.slice none 0 0)] = AV.agg [AV.val (Value.int IntKind.i64 (↑i : Int)), AV.val (Value.int IntKind.i64 (256 : Int)), vQ [kq (Int.toNat (↑i : Int))], AV.val (Value.slice none 0 0), AV.val (Value.slice none 0 0), AV.val (Value.slice none 0 0)]) ::
   (qrows l = qrows (qal (qrows l))) ::
   (List.length l = List.length (qrows l)) ::
   (List.length l ≤ 31) ::
   ((0 : Int) ≤ x i ∧ x i < (4294967296 : Int)) ::
   (SameO (some { t := 109, sz := 2, exact := true, fz := false, body := Body.rows [[AV.val (Value.int IntKind.i64 (64 : Int)), AV.val (Value.slice none 0 0)]] }) { t := 109, sz := 2, exact := true, fz := false, body := Body.rows [[AV.val (Value.int IntKind.i64 (64 : Int)), AV.val (Value.slice none 0 0)]] }) ::
   (SameO (some { t := 125, sz := 20, exact := false, fz := false, body := Body.flat (qrows l) }) { t := 125, sz := 20, exact := false, fz := false, body := Body.flat (qrows l) }) ::
   (SameO (some { t := 121, sz := 3, exact := true, fz := false, body := Body.rows [[AV.val (Value.int IntKind.i64 (32 : Int)), AV.sl 1 0 (List.length l) none, AV.ptr 2 0 0]] }) { t := 121, sz := 3, exact := true, fz := false, body := Body.rows [[AV.val (Value.int IntKind.i64 (32 : Int)), AV.sl 1 0 (List.length l) none, AV.ptr 2 0 0]] }) ::
   (List.length (qrows l) = List.length l) ::
   (List.length l + 1 ≤ 1000000000) ::
   ((List.length l + 1) * 160 ≤ 140737488355328) ::
   (AV.agg [AV.val (Value.int IntKind.i64 (↑i : Int)), AV.val (Value.int IntKind.i64 (256 : Int)), vQ [kq (Int.toNat (↑i : Int))], AV.val (Value.slice none 0 0), AV.val (Value.slice none 0 0), AV.val (Value.slice none 0 0)] = AV.agg [AV.val (Value.int IntKind.i64 (↑i : Int)), AV.val (Value.int IntKind.i64 (256 : Int)), vQ [kq (Int.toNat (↑i : Int))], AV.val (Value.slice none 0 0), AV.val (Value.slice none 0 0), AV.val (Value.slice none 0 0)]) ::
   ((!true == decide ((↑i : Int) < (32 : Int))) = false) ::
   rp 4 (decide ((20000 : Int) + (↑(frP (qal (qrows l)) 31 (stP (x i))) : Int) < (20000 : Int)) = false) (
   rp 6 (decide ((20000 : Int) + (↑(frP (qal (qrows l)) 31 (stP (x i))) : Int) > (29999 : Int)) = false) (
   ((0 : Int) ≤ (↑i : Int) ∧ (↑i : Int) < (↑n : Int)) ::
   rp 5 (decide ((20000 : Int) + (↑(frP (qal (qrows l)) 31 (stP (x i))) : Int) > (29999 : Int)) = false) (
   ((IntKind.wrap IntKind.i64 (bits BinOp.and IntKind.u32 (x i) (65535 : Int)) != IntKind.wrap IntKind.i64 (bits BinOp.and IntKind.u32 (x i) (65535 : Int))) = false) ::
   ((AV.view 1 n fun k => [AV.val (Value.int IntKind.u32 (x k))]) = AV.view 1 n fun i => [AV.val (Value.int IntKind.u32 (x i))]) ::
   (AV.sl 3 0 (List.length l) none = AV.sl 3 0 (List.length l) none) ::
   (AV.val (Value.int IntKind.i64 (↑i : Int)) = AV.val (Value.int IntKind.i64 (↑i : Int))) ::
   (AV.val (Value.int IntKind.i64 (0 : Int)) = AV.val (Value.int IntKind.i64 (0 : Int))) ::
   (SameO (some { t := 121, sz := 3, exact := true, fz := false, body := Body.rows [[AV.val (Value.int IntKind.i64 (32 : Int)), AV.sl 239 0 (List.length l + 1) none, AV.ptr 2 0 0]] }) { t := 121, sz := 3, exact := true, fz := false, body := Body.rows [[AV.val (Value.int IntKind.i64 (32 : Int)), AV.sl 239 0 (List.length m) none, AV.ptr 2 0 0]] }) ::
   (SameO (some { t := 125, sz := 20, exact := false, fz := false, body := Body.flat (qrows l ++ [[AV.val (Value.int IntKind.i64 (↑i : Int)), AV.val (Value.int IntKind.i64 (256 : Int)), vQ [kq (Int.toNat (↑i : Int))], AV.val (Value.slice none 0 0), AV.val (Value.slice none 0 0), AV.val (Value.slice none 0 0), AV.val (Value.int IntKind.u8 (2 : Int)), AV.val (Value.int IntKind.u8 (IntKind.wrap IntKind.u8 (↑i : Int))), AV.val (Value.int IntKind.u8 (0 : Int)), AV.val (Value.int IntKind.u8 (0 : Int)), AV.val (Value.int IntKind.u8 (0 : Int)), AV.val (Value.int IntKind.u8 (0 : Int)), AV.val (Value.int IntKind.u8 (10 : Int)), AV.val (Value.int IntKind.u8 (0 : Int)), AV.val (Value.int IntKind.u8 (0 : Int)), AV.val (Value.int IntKind.u8 (IntKind.wrap IntKind.u8 (↑i : Int))), AV.val (Value.int IntKind.i64 (IntKind.wrap IntKind.i64 ((1000 : Int) + (↑i : Int)))), AV.val (Value.int IntKind.i64 (IntKind.wrap IntKind.i64 (bits BinOp.and IntKind.u32 (x i) (65535 : Int)))), AV.val (Value.int IntKind.i64 ((20000 : Int) + (↑(frP (qal (qrows l)) 31 (stP (x i))) : Int))), AV.val (Value.int IntKind.i64 (0 : Int))]]) }) { t := 125, sz := 20, exact := false, fz := false, body := Body.flat (List.map (fun x => (AV.brecOn_1.go x (AV.ren._f (renX 0 [0, 239, 2, 3, 22] 292)) (renL._f (renX 0 [0, 239, 2, 3, 22] 292))).1) (qrows m)) }) ::
   (SameO (some { t := 109, sz := 2, exact := true, fz := false, body := Body.rows [[AV.val (Value.int IntKind.i64 (64 : Int)), AV.val (Value.slice none 0 0)]] }) { t := 109, sz := 2, exact := true, fz := false, body := Body.rows [[AV.val (Value.int IntKind.i64 (64 : Int)), AV.val (Value.slice none 0 0)]] }) ::
   (SameO (some { t := 3, sz := 1, exact := false, fz := false, body := Body.flat (iRows l) }) { t := 3, sz := 1, exact := false, fz := false, body := Body.flat (List.map (fun x => (AV.brecOn_1.go x (AV.ren._f (renX 0 [0, 239, 2, 3, 22] 292)) (renL._f (renX 0 [0, 239, 2, 3, 22] 292))).1) (iRows l)) }) ::
   (SameO (some { t := 59, sz := 19, exact := true, fz := false, body := Body.rows [[AV.val (Value.bool true), AV.val (Value.int IntKind.u8 (0 : Int)), AV.val (Value.int IntKind.u8 (0 : Int)), AV.val (Value.int IntKind.u8 (0 : Int)), AV.val (Value.int IntKind.u8 (0 : Int)), AV.val (Value.int IntKind.u8 (0 : Int)), AV.val (Value.int IntKind.u8 (0 : Int)), AV.val (Value.int IntKind.u8 (0 : Int)), AV.val (Value.int IntKind.u8 (0 : Int)), AV.val (Value.int IntKind.u8 (0 : Int)), AV.val (Value.int IntKind.u8 (0 : Int)), AV.val (Value.int IntKind.i64 (0 : Int)), AV.val (Value.int IntKind.i64 ((20000 : Int) + (↑(frP (qal (qrows l)) 31 (stP (x i))) : Int))), AV.val (Value.int IntKind.i64 (IntKind.wrap IntKind.i64 (bits BinOp.and IntKind.u32 (x i) (65535 : Int)))), AV.val (Value.int IntKind.i64 (256 : Int)), vQ [kq (Int.toNat (↑i : Int))], AV.val (Value.slice none 0 0), AV.val (Value.slice none 0 0), AV.val (Value.slice none 0 0)]] }) { t := 59, sz := 19, exact := true, fz := false, body := Body.rows [[AV.val (Value.bool true), AV.val (Value.int IntKind.u8 (0 : Int)), AV.val (Value.int IntKind.u8 (0 : Int)), AV.val (Value.int IntKind.u8 (0 : Int)), AV.val (Value.int IntKind.u8 (0 : Int)), AV.val (Value.int IntKind.u8 (0 : Int)), AV.val (Value.int IntKind.u8 (0 : Int)), AV.val (Value.int IntKind.u8 (0 : Int)), AV.val (Value.int IntKind.u8 (0 : Int)), AV.val (Value.int IntKind.u8 (0 : Int)), AV.val (Value.int IntKind.u8 (0 : Int)), AV.val (Value.int IntKind.i64 (0 : Int)), AV.val (Value.int IntKind.i64 p), AV.val (Value.int IntKind.i64 e), AV.val (Value.int IntKind.i64 (256 : Int)), vQ [kq i], AV.val (Value.slice none 0 0), AV.val (Value.slice none 0 0), AV.val (Value.slice none 0 0)]] }) ::
   (EvXL Try.prog 0 (loopAt Try.prog 7 19) (GoalX.st (LoopX.G (inL n x i l m e p 239 22)) 0) (LoopX.ex (inL n x i l m e p 239 22)) (GoalX.st (LoopX.E (inL n x i l m e p 239 22)) 0)) ::
   (List.length (iRows l) = List.length l) ::
   (List.length l + 1 ≤ 1000000000) ::
   ((List.length l + 1) * 8 ≤ 140737488355328) ::
   ((AV.view 1 n fun k => [AV.val (Value.int IntKind.u32 (x k))]) = AV.view 1 n fun i => [AV.val (Value.int IntKind.u32 (x i))]) ::
   (AV.sl 9 0 (List.length l + 1) none = AV.sl 9 0 (List.length m) none) ::
   (AV.val (Value.int IntKind.i64 (IntKind.wrap IntKind.i64 ((↑i : Int) + (1 : Int)))) = AV.val (Value.int IntKind.i64 (↑(i + 1) : Int))) ::
   (SameO (some { t := 121, sz := 3, exact := true, fz := false, body := Body.rows [[AV.val (Value.int IntKind.i64 (32 : Int)), AV.sl 1 0 (List.length m) none, AV.ptr 2 0 0]] }) { t := 121, sz := 3, exact := true, fz := false, body := Body.rows [[AV.val (Value.int IntKind.i64 (32 : Int)), AV.sl 1 0 (List.length m) none, AV.ptr 2 0 0]] }) ::
   (SameO (some { t := 125, sz := 20, exact := false, fz := false, body := Body.flat (qrows m) }) { t := 125, sz := 20, exact := false, fz := false, body := Body.flat (List.map (fun x => (AV.brecOn_1.go x (AV.ren._f (renX 0 [0, 1, 2, 9] 14)) (renL._f (renX 0 [0, 1, 2, 9] 14))).1) (qrows m)) }) ::
   (SameO (some { t := 109, sz := 2, exact := true, fz := false, body := Body.rows [[AV.val (Value.int IntKind.i64 (64 : Int)), AV.val (Value.slice none 0 0)]] }) { t := 109, sz := 2, exact := true, fz := false, body := Body.rows [[AV.val (Value.int IntKind.i64 (64 : Int)), AV.val (Value.slice none 0 0)]] }) ::
   (SameO (some { t := 3, sz := 1, exact := false, fz := false, body := Body.flat (iRows l ++ [[AV.val (Value.int IntKind.i64 p)]]) }) { t := 3, sz := 1, exact := false, fz := false, body := Body.flat (List.map (fun x => (AV.brecOn_1.go x (AV.ren._f (renX 0 [0, 1, 2, 9] 14)) (renL._f (renX 0 [0, 1, 2, 9] 14))).1) (iRows m)) }) :: [])))) := by kernel_rfl

set_option maxRecDepth 100000 in
theorem ar_full (n : Nat) (x : Nat → Int) (i : Nat) (l : List (Nat × Int × Int)) : stepXS kPo [(7, { op := [(12, 10, .keep)], br := [(24, true), (49, false)], ob := [(12, 8), (12, 10)] }),
   (34, { br := [(63, true)] })] Try.prog 7 10 (arG n x i l) (arG n x (i + 1) l) [0, 1, 2, 3] 0 [] =
   some (.normal,
   (decide ((↑i : Int) < (↑n : Int)) = true) ::
   ((↑i : Int) = (↑i : Int)) ::
   ((0 : Int) ≤ (↑i : Int)) ::
   ((↑i : Int) < (128 : Int)) ::
   ((0 : Int) ≤ (↑i : Int) ∧ (↑i : Int) < (↑n : Int)) ::
   (decide ((↑(List.length l) : Int) ≥ (32 : Int)) = true) ::
   ((vS [nmB i]) = vS [List.getD (lsOf (vS [nmB i])) 0 []]) ::
   (SameO (some { t := 109, sz := 2, exact := true, fz := false, body := Body.rows [[AV.val (Value.int IntKind.i64 (64 : Int)), AV.val (Value.slice none 0 0)]] }) { t := 109, sz := 2, exact := true, fz := false, body := Body.rows [[AV.val (Value.int IntKind.i64 (64 : Int)), AV.val (Value.slice none 0 0)]] }) ::
   (SameO (some { t := 125, sz := 20, exact := false, fz := false, body := Body.flat (qrows l) }) { t := 125, sz := 20, exact := false, fz := false, body := Body.flat (qrows l) }) ::
   (SameO (some { t := 121, sz := 3, exact := true, fz := false, body := Body.rows [[AV.val (Value.int IntKind.i64 (32 : Int)), AV.sl 1 0 (List.length l) none, AV.ptr 2 0 0]] }) { t := 121, sz := 3, exact := true, fz := false, body := Body.rows [[AV.val (Value.int IntKind.i64 (32 : Int)), AV.sl 1 0 (List.length l) none, AV.ptr 2 0 0]] }) ::
   ((!false == decide ((↑i : Int) < (32 : Int))) = false) ::
   ((AV.view 1 n fun k => [AV.val (Value.int IntKind.u32 (x k))]) = AV.view 1 n fun i => [AV.val (Value.int IntKind.u32 (x i))]) ::
   (AV.sl 3 0 (List.length l) none = AV.sl 3 0 (List.length l) none) ::
   (AV.val (Value.int IntKind.i64 (IntKind.wrap IntKind.i64 ((↑i : Int) + (1 : Int)))) = AV.val (Value.int IntKind.i64 (↑(i + 1) : Int))) ::
   (SameO (some { t := 121, sz := 3, exact := true, fz := false, body := Body.rows [[AV.val (Value.int IntKind.i64 (32 : Int)), AV.sl 1 0 (List.length l) none, AV.ptr 2 0 0]] }) { t := 121, sz := 3, exact := true, fz := false, body := Body.rows [[AV.val (Value.int IntKind.i64 (32 : Int)), AV.sl 1 0 (List.length l) none, AV.ptr 2 0 0]] }) ::
   (SameO (some { t := 125, sz := 20, exact := false, fz := false, body := Body.flat (qrows l) }) { t := 125, sz := 20, exact := false, fz := false, body := Body.flat (List.map (fun x => (AV.brecOn_1.go x (AV.ren._f (renX 0 [0, 1, 2, 3] 181)) (renL._f (renX 0 [0, 1, 2, 3] 181))).1) (qrows l)) }) ::
   (SameO (some { t := 109, sz := 2, exact := true, fz := false, body := Body.rows [[AV.val (Value.int IntKind.i64 (64 : Int)), AV.val (Value.slice none 0 0)]] }) { t := 109, sz := 2, exact := true, fz := false, body := Body.rows [[AV.val (Value.int IntKind.i64 (64 : Int)), AV.val (Value.slice none 0 0)]] }) ::
   (SameO (some { t := 3, sz := 1, exact := false, fz := false, body := Body.flat (iRows l) }) { t := 3, sz := 1, exact := false, fz := false, body := Body.flat (List.map (fun x => (AV.brecOn_1.go x (AV.ren._f (renX 0 [0, 1, 2, 3] 181)) (renL._f (renX 0 [0, 1, 2, 3] 181))).1) (iRows l)) }) :: []) := by kernel_rfl

set_option maxRecDepth 100000 in
theorem ar_end (n : Nat) (x : Nat → Int) (l : List (Nat × Int × Int)) : stepXS kPo [(7, { br := [(24, false)] })] Try.prog 7 10 (arG n x n l) (arE) [] 0 [] =
   some (.exit 0,
   (decide ((↑n : Int) < (↑n : Int)) = false) :: []) := by kernel_rfl

set_option maxRecDepth 100000 in
theorem ar_end0 (n : Nat) (x : Nat → Int) : stepXS kPo [(7, { br := [(24, false)] })] Try.prog 7 10 (arG0 n x) (arE) [] 0 [] =
   some (.exit 0,
   (decide ((0 : Int) < (↑n : Int)) = false) :: []) := by kernel_rfl

set_option maxRecDepth 100000 in
theorem in_step (n : Nat) (x : Nat → Int) (i : Nat) (l : List (Nat × Int × Int)) (m : List (Nat × Int × Int)) (e : Int) (p : Int) (k : Nat) (z : Int) : stepXS kPo [(7, { op := [(21, 3, Hn.row [iI z])], br := [(76, true), (85, false)], ob := [(21, 2)] })] Try.prog 7 19 (inG n x i l m e p k) (inG n x i l m e p (k + 1)) [0, 1, 2, 3, 4] 0 [] =
   some (.normal,
   (decide ((↑k : Int) < (↑(List.length l) : Int)) = true) ::
   ((0 : Int) ≤ (↑k : Int) ∧ (↑k : Int) < (↑(List.length l) : Int)) ::
   ((iRows l)[0 + k]? = some [AV.val (Value.int IntKind.i64 z)]) ::
   ((z == p) = false) ::
   ((AV.view 1 n fun k => [AV.val (Value.int IntKind.u32 (x k))]) = AV.view 1 n fun i => [AV.val (Value.int IntKind.u32 (x i))]) ::
   (AV.sl 3 0 (List.length l) none = AV.sl 3 0 (List.length l) none) ::
   (AV.val (Value.int IntKind.i64 (↑i : Int)) = AV.val (Value.int IntKind.i64 (↑i : Int))) ::
   (AV.val (Value.int IntKind.i64 (IntKind.wrap IntKind.i64 ((↑k : Int) + (1 : Int)))) = AV.val (Value.int IntKind.i64 (↑(k + 1) : Int))) ::
   (SameO (some { t := 121, sz := 3, exact := true, fz := false, body := Body.rows [[AV.val (Value.int IntKind.i64 (32 : Int)), AV.sl 1 0 (List.length m) none, AV.ptr 2 0 0]] }) { t := 121, sz := 3, exact := true, fz := false, body := Body.rows [[AV.val (Value.int IntKind.i64 (32 : Int)), AV.sl 1 0 (List.length m) none, AV.ptr 2 0 0]] }) ::
   (SameO (some { t := 125, sz := 20, exact := false, fz := false, body := Body.flat (qrows m) }) { t := 125, sz := 20, exact := false, fz := false, body := Body.flat (List.map (fun x => (AV.brecOn_1.go x (AV.ren._f (renX 0 [0, 1, 2, 3, 4] 19)) (renL._f (renX 0 [0, 1, 2, 3, 4] 19))).1) (qrows m)) }) ::
   (SameO (some { t := 109, sz := 2, exact := true, fz := false, body := Body.rows [[AV.val (Value.int IntKind.i64 (64 : Int)), AV.val (Value.slice none 0 0)]] }) { t := 109, sz := 2, exact := true, fz := false, body := Body.rows [[AV.val (Value.int IntKind.i64 (64 : Int)), AV.val (Value.slice none 0 0)]] }) ::
   (SameO (some { t := 3, sz := 1, exact := false, fz := false, body := Body.flat (iRows l) }) { t := 3, sz := 1, exact := false, fz := false, body := Body.flat (List.map (fun x => (AV.brecOn_1.go x (AV.ren._f (renX 0 [0, 1, 2, 3, 4] 19)) (renL._f (renX 0 [0, 1, 2, 3, 4] 19))).1) (iRows l)) }) ::
   (SameO (some { t := 59, sz := 19, exact := true, fz := false, body := Body.rows [[AV.val (Value.bool true), AV.val (Value.int IntKind.u8 (0 : Int)), AV.val (Value.int IntKind.u8 (0 : Int)), AV.val (Value.int IntKind.u8 (0 : Int)), AV.val (Value.int IntKind.u8 (0 : Int)), AV.val (Value.int IntKind.u8 (0 : Int)), AV.val (Value.int IntKind.u8 (0 : Int)), AV.val (Value.int IntKind.u8 (0 : Int)), AV.val (Value.int IntKind.u8 (0 : Int)), AV.val (Value.int IntKind.u8 (0 : Int)), AV.val (Value.int IntKind.u8 (0 : Int)), AV.val (Value.int IntKind.i64 (0 : Int)), AV.val (Value.int IntKind.i64 p), AV.val (Value.int IntKind.i64 e), AV.val (Value.int IntKind.i64 (256 : Int)), vQ [kq i], AV.val (Value.slice none 0 0), AV.val (Value.slice none 0 0), AV.val (Value.slice none 0 0)]] }) { t := 59, sz := 19, exact := true, fz := false, body := Body.rows [[AV.val (Value.bool true), AV.val (Value.int IntKind.u8 (0 : Int)), AV.val (Value.int IntKind.u8 (0 : Int)), AV.val (Value.int IntKind.u8 (0 : Int)), AV.val (Value.int IntKind.u8 (0 : Int)), AV.val (Value.int IntKind.u8 (0 : Int)), AV.val (Value.int IntKind.u8 (0 : Int)), AV.val (Value.int IntKind.u8 (0 : Int)), AV.val (Value.int IntKind.u8 (0 : Int)), AV.val (Value.int IntKind.u8 (0 : Int)), AV.val (Value.int IntKind.u8 (0 : Int)), AV.val (Value.int IntKind.i64 (0 : Int)), AV.val (Value.int IntKind.i64 p), AV.val (Value.int IntKind.i64 e), AV.val (Value.int IntKind.i64 (256 : Int)), vQ [kq i], AV.val (Value.slice none 0 0), AV.val (Value.slice none 0 0), AV.val (Value.slice none 0 0)]] }) :: []) := by kernel_rfl

set_option maxRecDepth 100000 in
theorem in_end (n : Nat) (x : Nat → Int) (i : Nat) (l : List (Nat × Int × Int)) (m : List (Nat × Int × Int)) (e : Int) (p : Int) (k : Nat) : stepXS kPo [(7, { br := [(76, false)] })] Try.prog 7 19 (inG n x i l m e p k) (inE n x i l m e p) [0, 1, 2, 3, 4] 0 [] =
   some (.exit 2,
   (decide ((↑k : Int) < (↑(List.length l) : Int)) = false) ::
   ((AV.view 1 n fun k => [AV.val (Value.int IntKind.u32 (x k))]) = AV.view 1 n fun i => [AV.val (Value.int IntKind.u32 (x i))]) ::
   (AV.sl 3 0 (List.length l) none = AV.sl 3 0 (List.length l) none) ::
   (AV.val (Value.int IntKind.i64 (↑i : Int)) = AV.val (Value.int IntKind.i64 (↑i : Int))) ::
   (SameO (some { t := 121, sz := 3, exact := true, fz := false, body := Body.rows [[AV.val (Value.int IntKind.i64 (32 : Int)), AV.sl 1 0 (List.length m) none, AV.ptr 2 0 0]] }) { t := 121, sz := 3, exact := true, fz := false, body := Body.rows [[AV.val (Value.int IntKind.i64 (32 : Int)), AV.sl 1 0 (List.length m) none, AV.ptr 2 0 0]] }) ::
   (SameO (some { t := 125, sz := 20, exact := false, fz := false, body := Body.flat (qrows m) }) { t := 125, sz := 20, exact := false, fz := false, body := Body.flat (List.map (fun x => (AV.brecOn_1.go x (AV.ren._f (renX 0 [0, 1, 2, 3, 4] 9)) (renL._f (renX 0 [0, 1, 2, 3, 4] 9))).1) (qrows m)) }) ::
   (SameO (some { t := 109, sz := 2, exact := true, fz := false, body := Body.rows [[AV.val (Value.int IntKind.i64 (64 : Int)), AV.val (Value.slice none 0 0)]] }) { t := 109, sz := 2, exact := true, fz := false, body := Body.rows [[AV.val (Value.int IntKind.i64 (64 : Int)), AV.val (Value.slice none 0 0)]] }) ::
   (SameO (some { t := 3, sz := 1, exact := false, fz := false, body := Body.flat (iRows l) }) { t := 3, sz := 1, exact := false, fz := false, body := Body.flat (List.map (fun x => (AV.brecOn_1.go x (AV.ren._f (renX 0 [0, 1, 2, 3, 4] 9)) (renL._f (renX 0 [0, 1, 2, 3, 4] 9))).1) (iRows l)) }) ::
   (SameO (some { t := 59, sz := 19, exact := true, fz := false, body := Body.rows [[AV.val (Value.bool true), AV.val (Value.int IntKind.u8 (0 : Int)), AV.val (Value.int IntKind.u8 (0 : Int)), AV.val (Value.int IntKind.u8 (0 : Int)), AV.val (Value.int IntKind.u8 (0 : Int)), AV.val (Value.int IntKind.u8 (0 : Int)), AV.val (Value.int IntKind.u8 (0 : Int)), AV.val (Value.int IntKind.u8 (0 : Int)), AV.val (Value.int IntKind.u8 (0 : Int)), AV.val (Value.int IntKind.u8 (0 : Int)), AV.val (Value.int IntKind.u8 (0 : Int)), AV.val (Value.int IntKind.i64 (0 : Int)), AV.val (Value.int IntKind.i64 p), AV.val (Value.int IntKind.i64 e), AV.val (Value.int IntKind.i64 (256 : Int)), vQ [kq i], AV.val (Value.slice none 0 0), AV.val (Value.slice none 0 0), AV.val (Value.slice none 0 0)]] }) { t := 59, sz := 19, exact := true, fz := false, body := Body.rows [[AV.val (Value.bool true), AV.val (Value.int IntKind.u8 (0 : Int)), AV.val (Value.int IntKind.u8 (0 : Int)), AV.val (Value.int IntKind.u8 (0 : Int)), AV.val (Value.int IntKind.u8 (0 : Int)), AV.val (Value.int IntKind.u8 (0 : Int)), AV.val (Value.int IntKind.u8 (0 : Int)), AV.val (Value.int IntKind.u8 (0 : Int)), AV.val (Value.int IntKind.u8 (0 : Int)), AV.val (Value.int IntKind.u8 (0 : Int)), AV.val (Value.int IntKind.u8 (0 : Int)), AV.val (Value.int IntKind.i64 (0 : Int)), AV.val (Value.int IntKind.i64 p), AV.val (Value.int IntKind.i64 e), AV.val (Value.int IntKind.i64 (256 : Int)), vQ [kq i], AV.val (Value.slice none 0 0), AV.val (Value.slice none 0 0), AV.val (Value.slice none 0 0)]] }) :: []) := by kernel_rfl
end Go.Proofs.Ytmilcpejchjleaa

/- The law AskPorts: its loop, walked. -/
set_option linter.unusedSimpArgs false
set_option linter.unusedVariables false
namespace Go.Proofs.Ytmilcpejchjleaa.askPorts
open Go.RowKit

theorem same_ir {t sz : Nat} {ex fz : Bool} {f : List AV → List AV} {es : List (Nat × Int × Int)} {l : List (List AV)} (hf : ∀ z, f [iI z] = [iI z]) (h : l = iRows es) : SameO (some { t := t, sz := sz, exact := ex, fz := fz, body := .flat l }) { t := t, sz := sz, exact := ex, fz := fz, body := .flat ((iRows es).map f) } := by
  have : (iRows es).map f = iRows es := by
    unfold iRows
    rw [List.map_map]
    exact List.map_congr_left fun e _ => hf _
  rw [this, h]
  exact rfl
theorem in_loop (n : Nat) (x : Nat → Int) (i : Nat) (l m : List (Nat × Int × Int)) (e p : Int) (hl : l.length ≤ 1000000) (hne : ∀ y ∈ l, y.2.2 ≠ p) : ∀ (k j : Nat), j + k = l.length →
    EvXL Try.prog 0 (loopAt Try.prog 7 19) ((inG n x i l m e p j).st 0) (.exit 2) ((inE n x i l m e p).st 0)
  | 0, j, hk => by
    refine EvXL.last (stepXS_ok kPo_ok (in_end n x i l m e p j) ?_) (by simp)
    repeat' (first | exact allNil | refine allCons ?_ ?_ | (with_reducible refine allRp _ ?_ ?_))
    all_goals first | exact True.intro | (with_reducible rfl) | exact decide_eq_false (by omega) | exact same_qr (fun _ => rfl) rfl | exact same_ir (fun _ => rfl) rfl | exact rfl
  | k + 1, j, hk => by
    have hj : j < l.length := by omega
    have hx : l[j]? = some l[j] := List.getElem?_eq_getElem hj
    have hn := hne _ (List.getElem_mem hj)
    refine EvXL.step (stepXS_ok kPo_ok (in_step n x i l m e p j l[j].2.2) ?_) (in_loop n x i l m e p hl hne k (j + 1) (by omega))
    repeat' (first | exact allNil | refine allCons ?_ ?_ | (with_reducible refine allRp _ ?_ ?_))
    all_goals first | exact True.intro | (with_reducible rfl) | exact decide_eq_true (by omega) | omega | (rw [Nat.zero_add]; exact iRows_get hx) | exact beq_eq_false_iff_ne.2 hn | exact sI_succ j (by omega) | exact same_qr (fun _ => rfl) rfl | exact same_ir (fun _ => rfl) rfl | exact rfl

set_option maxRecDepth 100000 in
set_option maxHeartbeats 2000000 in
theorem ar_loop (n : Nat) (x : Nat → Int) (h40 : n ≤ 40) (hx : ∀ i, 0 ≤ x i ∧ x i < 4294967296) : ∀ (k i : Nat) (l : List (Nat × Int × Int)), i + k = n → l.length = min i 32 →
    EvXL Try.prog 0 (loopAt Try.prog 7 10) ((arG n x i l).st 0) (.exit 0) (arE.st 0)
  | 0, i, l, hk, hl => by
    obtain rfl : i = n := by omega
    refine EvXL.last (stepXS_ok kPo_ok (ar_end i x l) ?_) (by simp)
    repeat' (first | exact allNil | refine allCons ?_ ?_ | (with_reducible refine allRp _ ?_ ?_))
    all_goals first | exact True.intro | (with_reducible rfl) | exact decide_eq_false (by omega) | exact same_qr (fun _ => rfl) rfl | exact same_ir (fun _ => rfl) rfl | exact rfl
  | k + 1, i, l, hk, hl => by
    by_cases h32 : i < 32
    · have hll : l.length = i := by omega
      have hst : stP (x i) < 10000 := by unfold stP; omega
      obtain ⟨hfr, hq⟩ := frP_ok l 31 (stP (x i)) hst (some_free l (by omega) _)
      generalize hqq : frP l 31 (stP (x i)) = q at *
      have hne := fP_not q l 0 hfr
      have L := in_loop n x i l (l ++ [(i, idR (x i), 20000 + (q : Int))]) (idR (x i)) (20000 + (q : Int)) (by omega) hne l.length 0 (by omega)
      have hs : EvX Try.prog 0 (loopAt Try.prog 7 10) ((arG n x i l).st 0) .normal ((arG n x (i + 1) (l ++ [(i, idR (x i), 20000 + (q : Int))])).st 0) := by
        refine stepXS_ok kPo_ok (ar_grow n x i l (l ++ [(i, idR (x i), 20000 + (q : Int))]) (idR (x i)) (20000 + (q : Int))) ?_
        simp only [qal_qrows, hqq, Int.toNat_natCast, qrows_len, iRows_len]
        repeat' (first | exact allNil | refine allCons ?_ ?_ | (with_reducible refine allRp _ ?_ ?_))
        all_goals first | exact True.intro | (with_reducible rfl) | exact L | exact hx i | (with_reducible exact bne_eq_false_iff_eq.2 rfl) | (with_reducible exact decide_eq_true (by omega)) | (with_reducible exact decide_eq_false (by omega)) | omega | exact sI_succ i (by omega) | (with_reducible exact bne_eq_false_iff_eq.2 rfl) | (rw [decide_eq_true (show (i : Int) < 32 from by omega)]; rfl) | exact same_qr (fun _ => rfl) rfl | exact same_ir (fun _ => rfl) rfl | exact same_qr (fun _ => rfl) (by rw [qrows_app]; rfl) | exact same_ir (fun _ => rfl) (by rw [iRows_app]; rfl) | (simp only [List.length_append]; exact rfl) | exact rfl
      exact EvXL.step hs (ar_loop n x h40 hx k (i + 1) _ (by omega) (by simp only [List.length_append, List.length_cons, List.length_nil]; omega))
    · have hs : EvX Try.prog 0 (loopAt Try.prog 7 10) ((arG n x i l).st 0) .normal ((arG n x (i + 1) l).st 0) := by
        refine stepXS_ok kPo_ok (ar_full n x i l) ?_
        simp only [qal_qrows, lsOf_vS, Int.toNat_natCast, List.getD_cons_zero, qrows_len, iRows_len]
        repeat' (first | exact allNil | refine allCons ?_ ?_ | (with_reducible refine allRp _ ?_ ?_))
        all_goals first | exact True.intro | (with_reducible rfl) | exact hx i | (with_reducible exact bne_eq_false_iff_eq.2 rfl) | (with_reducible exact decide_eq_true (by omega)) | (with_reducible exact decide_eq_false (by omega)) | omega | exact sI_succ i (by omega) | (with_reducible exact bne_eq_false_iff_eq.2 rfl) | (rw [decide_eq_false (show ¬ (i : Int) < 32 from by omega)]; rfl) | exact same_qr (fun _ => rfl) rfl | exact same_ir (fun _ => rfl) rfl | exact rfl
      exact EvXL.step hs (ar_loop n x h40 hx k (i + 1) l (by omega) (by omega))

set_option maxRecDepth 100000 in
theorem ar_all (n : Nat) (x : Nat → Int) (h40 : n ≤ 40) (hx : ∀ i, 0 ≤ x i ∧ x i < 4294967296) :
    EvXL Try.prog 0 (loopAt Try.prog 7 10) ((arG0 n x).st 0) (.exit 0) (arE.st 0) := by
  by_cases h0 : n = 0
  · subst h0
    refine EvXL.last (stepXS_ok kPo_ok (ar_end0 0 x) ?_) (by simp)
    repeat' (first | exact allNil | refine allCons ?_ ?_ | (with_reducible refine allRp _ ?_ ?_))
    all_goals first | exact True.intro | (with_reducible rfl) | exact decide_eq_false (by omega) | exact rfl
  · have hst : stP (x 0) < 10000 := by unfold stP; omega
    have ew : IntKind.wrap IntKind.i64 ((20000 : Int) + (stP (x 0) : Int)) = 20000 + (stP (x 0) : Int) := w64 _ (by omega)
    have h1 : EvX Try.prog 0 (loopAt Try.prog 7 10) ((arG0 n x).st 0) .normal ((arG1 n x (0, idR (x 0), 20000 + (stP (x 0) : Nat))).st 0) := by
      refine stepXS_ok kPo_ok (ar_first n x) ?_
      simp only [stP_raw (hx 0), ew]
      repeat' (first | exact allNil | refine allCons ?_ ?_ | (with_reducible refine allRp _ ?_ ?_))
      all_goals first | exact True.intro | (with_reducible rfl) | exact hx 0 | (with_reducible exact bne_eq_false_iff_eq.2 rfl) | (with_reducible exact decide_eq_true (by omega)) | (with_reducible exact decide_eq_false (by omega)) | omega | (with_reducible exact bne_eq_false_iff_eq.2 rfl) | exact rfl
    have hs : EvX Try.prog 0 (loopAt Try.prog 7 10) ((arG0 n x).st 0) .normal ((arG n x 1 [(0, idR (x 0), 20000 + (stP (x 0) : Nat))]).st 0) :=
      EvX.flat h1 rfl rfl rfl ⟨rfl, ⟨rfl, rfl, rfl, rfl, rfl, fun _ _ => rfl⟩, rfl, ⟨rfl, rfl, rfl, rfl, rfl, fun _ _ => rfl⟩, rfl, ⟨rfl, rfl, rfl, rfl, rfl, fun _ _ => rfl⟩, rfl, ⟨rfl, rfl, rfl, rfl, rfl, fun _ _ => rfl⟩, True.intro⟩
    exact EvXL.step hs (ar_loop n x h40 hx (n - 1) 1 _ (by omega) (by simp only [List.length_cons, List.length_nil]; omega))
end Go.Proofs.Ytmilcpejchjleaa.askPorts

/- The law AskPorts (main runs). No condition. -/
namespace Go.Proofs.Ytmilcpejchjleaa
open Go.RowKit

set_option maxRecDepth 100000 in
theorem as_many (n : Nat) (x : Nat → Int) : outXS kPo [(7, { br := [(14, true)] })] Try.prog 7 [AV.view 1 n fun k => [AV.val (Value.int IntKind.u32 (x k))]] [] 0 [] [] =
   some (AV.val (Value.bool true), [], 7,
   (decide ((↑n : Int) > (40 : Int)) = true) :: []) := by kernel_rfl

set_option maxRecDepth 100000 in
theorem as_all (n : Nat) (x : Nat → Int) : outXS kPo [(7, { br := [(14, false)] })] Try.prog 7 [AV.view 1 n fun k => [AV.val (Value.int IntKind.u32 (x k))]] [] 0 [] [(10, arL n x 44 36)] =
   some (AV.val (Value.bool true), [], 1,
   (decide ((↑n : Int) > (40 : Int)) = false) ::
   ((AV.view 1 n fun k => [AV.val (Value.int IntKind.u32 (x k))]) = AV.view 1 n fun i => [AV.val (Value.int IntKind.u32 (x i))]) ::
   (AV.val (Value.slice none 0 0) = AV.val (Value.slice none 0 0)) ::
   (AV.val (Value.int IntKind.i64 (0 : Int)) = AV.val (Value.int IntKind.i64 (0 : Int))) ::
   (SameO (some { t := 121, sz := 3, exact := true, fz := false, body := Body.rows [[AV.val (Value.int IntKind.i64 (32 : Int)), AV.val (Value.slice none 0 0), AV.ptr 36 0 0]] }) { t := 121, sz := 3, exact := true, fz := false, body := Body.rows [[AV.val (Value.int IntKind.i64 (32 : Int)), AV.val (Value.slice none 0 0), AV.ptr 36 0 0]] }) ::
   (SameO (some { t := 109, sz := 2, exact := true, fz := false, body := Body.rows [[AV.val (Value.int IntKind.i64 (64 : Int)), AV.val (Value.slice none 0 0)]] }) { t := 109, sz := 2, exact := true, fz := false, body := Body.rows [[AV.val (Value.int IntKind.i64 (64 : Int)), AV.val (Value.slice none 0 0)]] }) ::
   (EvXL Try.prog 0 (loopAt Try.prog 7 10) (GoalX.st (LoopX.G (arL n x 44 36)) 0) (LoopX.ex (arL n x 44 36)) (GoalX.st (LoopX.E (arL n x 44 36)) 0)) :: []) := by kernel_rfl
end Go.Proofs.Ytmilcpejchjleaa

/- The law AskPorts, walked: whatever is given, it answers true. -/
set_option linter.unusedSimpArgs false
set_option linter.unusedVariables false
namespace Go.Proofs.Ytmilcpejchjleaa.askPorts
open Go.RowKit

set_option maxRecDepth 100000 in
theorem walk (n : Nat) (x : Nat → Int) (hx : ∀ i, 0 ≤ x i ∧ x i < 4294967296) : ∃ L' nx', ACall Try.prog 7 [seqW n x] [] 0 (.val (.bool true)) L' nx' := by
  by_cases h : n > 40
  · refine ⟨_, _, outXS_ok kPo_ok (as_many n x) ?_⟩
    repeat' (first | exact allNil | refine allCons ?_ ?_ | (with_reducible refine allRp _ ?_ ?_))
    all_goals first | (with_reducible exact decide_eq_true (by omega)) | (with_reducible exact decide_eq_false (by omega)) | exact rfl
  · have L := ar_all n x (by omega) hx
    refine ⟨_, _, outXS_ok kPo_ok (as_all n x) ?_⟩
    repeat' (first | exact allNil | refine allCons ?_ ?_ | (with_reducible refine allRp _ ?_ ?_))
    all_goals first | (with_reducible rfl) | (with_reducible exact decide_eq_true (by omega)) | (with_reducible exact decide_eq_false (by omega)) | exact L | exact rfl

/-- as the law is handed its argument -/
theorem walk' (n : Nat) (g : Nat → List AV) (h : ∀ i, i < n → ∃ z : Int, (0 ≤ z ∧ z < 4294967296) ∧ g i = [.val (.int .u32 z)]) : ∃ L' nx', ACall Try.prog 7 [.view 1 n g] [] 0 (.val (.bool true)) L' nx' := by
  obtain ⟨L', nx', hc⟩ := walk n (fun i => if i < n then (match g i with | [.val (.int .u32 z)] => z | _ => 0) else 0) (fun i => by
    split
    · rename_i hi
      obtain ⟨z, hz, e⟩ := h i hi
      rw [e]
      exact hz
    · omega)
  refine ⟨L', nx', hc.args rfl fun E w k a a' u h1 h2 r => ?_⟩
  match k with
  | 0 =>
    simp at h1 h2
    subst h1 h2
    refine Rep.view_congr (fun i hi => ?_) r
    obtain ⟨z, _, hz⟩ := h i hi
    simp [hz, hi, iU]
  | k + 1 => simp at h1
end Go.Proofs.Ytmilcpejchjleaa.askPorts
