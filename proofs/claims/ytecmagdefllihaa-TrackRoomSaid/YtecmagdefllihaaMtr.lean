/- Several texts in one: Tr0, TrRun, Tr. -/
import Derived.Test.YtecmagdefllihaaTk0
import Derived.Test.YtecmagdefllihaaFx
import Derived.Test.YtecmagdefllihaaRp
import Derived.Test.YtecmagdefllihaaEza

/- A table of talks, as many as one likes: what its rows are; the loops that look for one. -/
namespace Go.Proofs.Ytecmagdefllihaa
open Go.RowKit

/-- talks of ports with one peer: the port, how it stands -/
def trow (x : Int × Int) : List AV := [i64 x.1, u8 8, u8 8, u8 8, u8 1, i64 80, i64 x.2, .val (.bool false)]
def trows (l : List (Int × Int)) : List (List AV) := l.map trow
theorem trows_len (l : List (Int × Int)) : (trows l).length = l.length := List.length_map _
theorem trows_get {l : List (Int × Int)} {i : Nat} {x : Int × Int} (h : l[i]? = some x) : (trows l)[i]? = some (trow x) := by
  unfold trows; rw [List.getElem?_map, h]; rfl
theorem trows_app (l k : List (Int × Int)) : trows (l ++ k) = trows l ++ trows k := List.map_append
theorem same_tr {t sz : Nat} {ex fz : Bool} {f : List AV → List AV} {es : List (Int × Int)} {l : List (List AV)} (hf : ∀ s, f (trow s) = trow s) (h : l = trows es) : SameO (some { t := t, sz := sz, exact := ex, fz := fz, body := .flat l }) { t := t, sz := sz, exact := ex, fz := fz, body := .flat ((trows es).map f) } := by
  have : (trows es).map f = trows es := by
    unfold trows
    rw [List.map_map]
    exact List.map_congr_left fun e _ => hf e
  rw [this, h]
  exact rfl
def tObj (l : List (Int × Int)) : AObj := ⟨92, 8, false, false, .flat (trows l)⟩
def tSl (id n : Nat) : AV := .sl id 0 n none
def addrO : AObj := objOne 29 [u8 8, u8 8, u8 8, u8 1]
def intO (o : Int) : AObj := objOne 3 [i64 o]
def ixF : AV := .fn (.func 78) [.ptr 1 0 0, .ptr 2 0 0, .ptr 3 0 0]
def iyF : AV := .fn (.func 79) []

def ixG (l : List (Int × Int)) (o : Int) (i : Nat) : GoalX := { len := 19, opn := [(1, ixF), (0, .sl 0 0 l.length none), (7, i64 l.length), (8, i64 i)], objs := [(2, addrO), (3, intO 80)], oob := [(0, tObj l), (1, intO o)], k := 0 }
def ixR (l : List (Int × Int)) (o : Int) (i : Nat) : GoalX := { len := 19, opn := [(4, i64 i)], objs := [(2, addrO), (3, intO 80)], oob := [(0, tObj l), (1, intO o)], k := 0 }
def ixE (l : List (Int × Int)) (o : Int) : GoalX := { len := 19, objs := [(2, addrO), (3, intO 80)], oob := [(0, tObj l), (1, intO o)], k := 0 }
def ixLR (l : List (Int × Int)) (o : Int) (i : Nat) : LoopX := { ids := [], G := ixG l o 0, ex := .ret, E := ixR l o i }
def ixLE (l : List (Int × Int)) (o : Int) : LoopX := { ids := [], G := ixG l o 0, ex := .exit 0, E := ixE l o }

def iyG (l : List (Int × Int)) (i : Nat) : GoalX := { len := 19, opn := [(1, iyF), (0, .sl 0 0 l.length none), (7, i64 l.length), (8, i64 i)], oob := [(0, tObj l)], k := 0 }
def iyR (l : List (Int × Int)) (i : Nat) : GoalX := { len := 19, opn := [(4, i64 i)], oob := [(0, tObj l)], k := 0 }
def iyE (l : List (Int × Int)) : GoalX := { len := 19, oob := [(0, tObj l)], k := 0 }
def iyLR (l : List (Int × Int)) (i : Nat) : LoopX := { ids := [], G := iyG l 0, ex := .ret, E := iyR l i }
def iyLE (l : List (Int × Int)) : LoopX := { ids := [], G := iyG l 0, ex := .exit 0, E := iyE l }
end Go.Proofs.Ytecmagdefllihaa

/- Looking for a talk in a table (runs). No condition. -/
namespace Go.Proofs.Ytecmagdefllihaa
open Go.RowKit

set_option maxRecDepth 100000 in
theorem ix_no (l : List (Int × Int)) (o : Int) (i : Nat) (x : Int) (s : Int) : stepXS noneKnown [(78, { op := [(1, 9, .br false)], gd := [(1, 5, false), (1, 6, false), (1, 7, false), (1, 8, false)] }),
   (77, { op := [(4, 4, Hn.row (trow (x, s)))], br := [(9, true)], ob := [(4, 3), (4, 5)] })] Try.prog 77 2 (ixG l o i) (ixG l o (i + 1)) [] 4 [] =
   some (.normal,
   (decide ((↑i : Int) < (↑(List.length l) : Int)) = true) ::
   ((0 : Int) ≤ (↑i : Int) ∧ (↑i : Int) < (↑(List.length l) : Int)) ::
   ((trows l)[0 + i]? = some [AV.val (Value.int IntKind.i64 x), AV.val (Value.int IntKind.u8 (8 : Int)), AV.val (Value.int IntKind.u8 (8 : Int)), AV.val (Value.int IntKind.u8 (8 : Int)), AV.val (Value.int IntKind.u8 (1 : Int)), AV.val (Value.int IntKind.i64 (80 : Int)), AV.val (Value.int IntKind.i64 s), AV.val (Value.bool false)]) ::
   rp 5 ((x == o) = false) (
   (AV.fn (Fn.func 78) [AV.ptr 1 0 0, AV.ptr 2 0 0, AV.ptr 3 0 0] = AV.fn (Fn.func 78) [AV.ptr 1 0 0, AV.ptr 2 0 0, AV.ptr 3 0 0]) ::
   (AV.sl 0 0 (List.length l) none = AV.sl 0 0 (List.length l) none) ::
   (AV.val (Value.int IntKind.i64 (↑(List.length l) : Int)) = AV.val (Value.int IntKind.i64 (↑(List.length l) : Int))) ::
   (AV.val (Value.int IntKind.i64 (IntKind.wrap IntKind.i64 ((↑i : Int) + (1 : Int)))) = AV.val (Value.int IntKind.i64 (↑(i + 1) : Int))) ::
   (SameO (some { t := 92, sz := 8, exact := false, fz := false, body := Body.flat (trows l) }) { t := 92, sz := 8, exact := false, fz := false, body := Body.flat (List.map (fun x => (AV.brecOn_1.go x (AV.ren._f (renX 4 [] 34)) (renL._f (renX 4 [] 34))).1) (trows l)) }) ::
   (SameO (some { t := 3, sz := 1, exact := true, fz := false, body := Body.rows [[AV.val (Value.int IntKind.i64 o)]] }) { t := 3, sz := 1, exact := true, fz := false, body := Body.rows [[AV.val (Value.int IntKind.i64 o)]] }) :: [])) := by kernel_rfl

set_option maxRecDepth 100000 in
theorem ix_hit (l : List (Int × Int)) (o : Int) (i : Nat) (x : Int) (s : Int) : stepXS noneKnown [(78, { op := [(1, 9, .br true)], gd := [(1, 5, true), (1, 6, true), (1, 7, true), (1, 8, true)] }),
   (77, { op := [(4, 4, Hn.row (trow (x, s)))], br := [(9, true)], ob := [(4, 3), (4, 5)] })] Try.prog 77 2 (ixG l o i) (ixR l o i) [] 4 [] =
   some (.ret,
   (decide ((↑i : Int) < (↑(List.length l) : Int)) = true) ::
   ((0 : Int) ≤ (↑i : Int) ∧ (↑i : Int) < (↑(List.length l) : Int)) ::
   ((trows l)[0 + i]? = some [AV.val (Value.int IntKind.i64 x), AV.val (Value.int IntKind.u8 (8 : Int)), AV.val (Value.int IntKind.u8 (8 : Int)), AV.val (Value.int IntKind.u8 (8 : Int)), AV.val (Value.int IntKind.u8 (1 : Int)), AV.val (Value.int IntKind.i64 (80 : Int)), AV.val (Value.int IntKind.i64 s), AV.val (Value.bool false)]) ::
   rp 5 ((x == o) = true) (
   (AV.val (Value.int IntKind.i64 (↑i : Int)) = AV.val (Value.int IntKind.i64 (↑i : Int))) ::
   (SameO (some { t := 92, sz := 8, exact := false, fz := false, body := Body.flat (trows l) }) { t := 92, sz := 8, exact := false, fz := false, body := Body.flat (List.map (fun x => (AV.brecOn_1.go x (AV.ren._f (renX 4 [] 34)) (renL._f (renX 4 [] 34))).1) (trows l)) }) ::
   (SameO (some { t := 3, sz := 1, exact := true, fz := false, body := Body.rows [[AV.val (Value.int IntKind.i64 o)]] }) { t := 3, sz := 1, exact := true, fz := false, body := Body.rows [[AV.val (Value.int IntKind.i64 o)]] }) :: [])) := by kernel_rfl

set_option maxRecDepth 100000 in
theorem ix_end (l : List (Int × Int)) (o : Int) : stepXS noneKnown [(77, { br := [(9, false)] })] Try.prog 77 2 (ixG l o (List.length l)) (ixE l o) [] 4 [] =
   some (.exit 0,
   (decide ((↑(List.length l) : Int) < (↑(List.length l) : Int)) = false) ::
   (SameO (some { t := 92, sz := 8, exact := false, fz := false, body := Body.flat (trows l) }) { t := 92, sz := 8, exact := false, fz := false, body := Body.flat (List.map (fun x => (AV.brecOn_1.go x (AV.ren._f (renX 4 [] 5)) (renL._f (renX 4 [] 5))).1) (trows l)) }) ::
   (SameO (some { t := 3, sz := 1, exact := true, fz := false, body := Body.rows [[AV.val (Value.int IntKind.i64 o)]] }) { t := 3, sz := 1, exact := true, fz := false, body := Body.rows [[AV.val (Value.int IntKind.i64 o)]] }) :: []) := by kernel_rfl

set_option maxRecDepth 100000 in
theorem ix_some (l : List (Int × Int)) (o : Int) (i : Nat) : outXS noneKnown [] Try.prog 77 [AV.sl 0 0 (List.length l) none, AV.fn (Fn.func 78) [AV.ptr 1 0 0, AV.ptr 2 0 0, AV.ptr 3 0 0]] [(0, { t := 92, sz := 8, exact := false, fz := false, body := Body.flat (trows l) }), (1, { t := 3, sz := 1, exact := true, fz := false, body := Body.rows [[AV.val (Value.int IntKind.i64 o)]] }), (2, { t := 29, sz := 4, exact := true, fz := false, body := Body.rows [[AV.val (Value.int IntKind.u8 (8 : Int)), AV.val (Value.int IntKind.u8 (8 : Int)), AV.val (Value.int IntKind.u8 (8 : Int)), AV.val (Value.int IntKind.u8 (1 : Int))]] }), (3, { t := 3, sz := 1, exact := true, fz := false, body := Body.rows [[AV.val (Value.int IntKind.i64 (80 : Int))]] })] 4 [0, 1, 2, 3] [(2, ixLR l o i)] =
   some (AV.val (Value.int IntKind.i64 (↑i : Int)), [(0, { t := 92, sz := 8, exact := false, fz := false, body := Body.flat (trows l) }), (1, { t := 3, sz := 1, exact := true, fz := false, body := Body.rows [[AV.val (Value.int IntKind.i64 o)]] }), (2, { t := 29, sz := 4, exact := true, fz := false, body := Body.rows [[AV.val (Value.int IntKind.u8 (8 : Int)), AV.val (Value.int IntKind.u8 (8 : Int)), AV.val (Value.int IntKind.u8 (8 : Int)), AV.val (Value.int IntKind.u8 (1 : Int))]] }), (3, { t := 3, sz := 1, exact := true, fz := false, body := Body.rows [[AV.val (Value.int IntKind.i64 (80 : Int))]] })], 4,
   (AV.fn (Fn.func 78) [AV.ptr 1 0 0, AV.ptr 2 0 0, AV.ptr 3 0 0] = AV.fn (Fn.func 78) [AV.ptr 1 0 0, AV.ptr 2 0 0, AV.ptr 3 0 0]) ::
   (AV.sl 0 0 (List.length l) none = AV.sl 0 0 (List.length l) none) ::
   (AV.val (Value.int IntKind.i64 (↑(List.length l) : Int)) = AV.val (Value.int IntKind.i64 (↑(List.length l) : Int))) ::
   (AV.val (Value.int IntKind.i64 (0 : Int)) = AV.val (Value.int IntKind.i64 (0 : Int))) ::
   (SameO (some { t := 92, sz := 8, exact := false, fz := false, body := Body.flat (trows l) }) { t := 92, sz := 8, exact := false, fz := false, body := Body.flat (List.map (fun x => (AV.brecOn_1.go x (AV.ren._f (renX 4 [] 8)) (renL._f (renX 4 [] 8))).1) (trows l)) }) ::
   (SameO (some { t := 3, sz := 1, exact := true, fz := false, body := Body.rows [[AV.val (Value.int IntKind.i64 o)]] }) { t := 3, sz := 1, exact := true, fz := false, body := Body.rows [[AV.val (Value.int IntKind.i64 o)]] }) ::
   (EvXL Try.prog 4 (loopAt Try.prog 77 2) (GoalX.st (LoopX.G (ixLR l o i)) 4) (LoopX.ex (ixLR l o i)) (GoalX.st (LoopX.E (ixLR l o i)) 4)) :: []) := by kernel_rfl

set_option maxRecDepth 100000 in
theorem ix_none (l : List (Int × Int)) (o : Int) : outXS noneKnown [] Try.prog 77 [AV.sl 0 0 (List.length l) none, AV.fn (Fn.func 78) [AV.ptr 1 0 0, AV.ptr 2 0 0, AV.ptr 3 0 0]] [(0, { t := 92, sz := 8, exact := false, fz := false, body := Body.flat (trows l) }), (1, { t := 3, sz := 1, exact := true, fz := false, body := Body.rows [[AV.val (Value.int IntKind.i64 o)]] }), (2, { t := 29, sz := 4, exact := true, fz := false, body := Body.rows [[AV.val (Value.int IntKind.u8 (8 : Int)), AV.val (Value.int IntKind.u8 (8 : Int)), AV.val (Value.int IntKind.u8 (8 : Int)), AV.val (Value.int IntKind.u8 (1 : Int))]] }), (3, { t := 3, sz := 1, exact := true, fz := false, body := Body.rows [[AV.val (Value.int IntKind.i64 (80 : Int))]] })] 4 [0, 1, 2, 3] [(2, ixLE l o)] =
   some (AV.val (Value.int IntKind.i64 (-1 : Int)), [(0, { t := 92, sz := 8, exact := false, fz := false, body := Body.flat (trows l) }), (1, { t := 3, sz := 1, exact := true, fz := false, body := Body.rows [[AV.val (Value.int IntKind.i64 o)]] }), (2, { t := 29, sz := 4, exact := true, fz := false, body := Body.rows [[AV.val (Value.int IntKind.u8 (8 : Int)), AV.val (Value.int IntKind.u8 (8 : Int)), AV.val (Value.int IntKind.u8 (8 : Int)), AV.val (Value.int IntKind.u8 (1 : Int))]] }), (3, { t := 3, sz := 1, exact := true, fz := false, body := Body.rows [[AV.val (Value.int IntKind.i64 (80 : Int))]] })], 5,
   (AV.fn (Fn.func 78) [AV.ptr 1 0 0, AV.ptr 2 0 0, AV.ptr 3 0 0] = AV.fn (Fn.func 78) [AV.ptr 1 0 0, AV.ptr 2 0 0, AV.ptr 3 0 0]) ::
   (AV.sl 0 0 (List.length l) none = AV.sl 0 0 (List.length l) none) ::
   (AV.val (Value.int IntKind.i64 (↑(List.length l) : Int)) = AV.val (Value.int IntKind.i64 (↑(List.length l) : Int))) ::
   (AV.val (Value.int IntKind.i64 (0 : Int)) = AV.val (Value.int IntKind.i64 (0 : Int))) ::
   (SameO (some { t := 92, sz := 8, exact := false, fz := false, body := Body.flat (trows l) }) { t := 92, sz := 8, exact := false, fz := false, body := Body.flat (List.map (fun x => (AV.brecOn_1.go x (AV.ren._f (renX 4 [] 8)) (renL._f (renX 4 [] 8))).1) (trows l)) }) ::
   (SameO (some { t := 3, sz := 1, exact := true, fz := false, body := Body.rows [[AV.val (Value.int IntKind.i64 o)]] }) { t := 3, sz := 1, exact := true, fz := false, body := Body.rows [[AV.val (Value.int IntKind.i64 o)]] }) ::
   (EvXL Try.prog 4 (loopAt Try.prog 77 2) (GoalX.st (LoopX.G (ixLE l o)) 4) (LoopX.ex (ixLE l o)) (GoalX.st (LoopX.E (ixLE l o)) 4)) :: []) := by kernel_rfl

set_option maxRecDepth 100000 in
theorem iy_no (l : List (Int × Int)) (i : Nat) (x : Int) (s : Int) : stepXS noneKnown [(77, { op := [(4, 4, Hn.row (trow (x, s)))], br := [(9, true), (16, false)], ob := [(4, 3)] })] Try.prog 77 2 (iyG l i) (iyG l (i + 1)) [] 1 [] =
   some (.normal,
   (decide ((↑i : Int) < (↑(List.length l) : Int)) = true) ::
   ((0 : Int) ≤ (↑i : Int) ∧ (↑i : Int) < (↑(List.length l) : Int)) ::
   ((trows l)[0 + i]? = some [AV.val (Value.int IntKind.i64 x), AV.val (Value.int IntKind.u8 (8 : Int)), AV.val (Value.int IntKind.u8 (8 : Int)), AV.val (Value.int IntKind.u8 (8 : Int)), AV.val (Value.int IntKind.u8 (1 : Int)), AV.val (Value.int IntKind.i64 (80 : Int)), AV.val (Value.int IntKind.i64 s), AV.val (Value.bool false)]) ::
   (decide (s ≥ (5 : Int)) = false) ::
   (AV.fn (Fn.func 79) [] = AV.fn (Fn.func 79) []) ::
   (AV.sl 0 0 (List.length l) none = AV.sl 0 0 (List.length l) none) ::
   (AV.val (Value.int IntKind.i64 (↑(List.length l) : Int)) = AV.val (Value.int IntKind.i64 (↑(List.length l) : Int))) ::
   (AV.val (Value.int IntKind.i64 (IntKind.wrap IntKind.i64 ((↑i : Int) + (1 : Int)))) = AV.val (Value.int IntKind.i64 (↑(i + 1) : Int))) ::
   (SameO (some { t := 92, sz := 8, exact := false, fz := false, body := Body.flat (trows l) }) { t := 92, sz := 8, exact := false, fz := false, body := Body.flat (List.map (fun x => (AV.brecOn_1.go x (AV.ren._f (renX 1 [] 18)) (renL._f (renX 1 [] 18))).1) (trows l)) }) :: []) := by kernel_rfl

set_option maxRecDepth 100000 in
theorem iy_hit (l : List (Int × Int)) (i : Nat) (x : Int) (s : Int) : stepXS noneKnown [(77, { op := [(4, 4, Hn.row (trow (x, s)))], br := [(9, true), (16, true)], ob := [(4, 3)] })] Try.prog 77 2 (iyG l i) (iyR l i) [] 1 [] =
   some (.ret,
   (decide ((↑i : Int) < (↑(List.length l) : Int)) = true) ::
   ((0 : Int) ≤ (↑i : Int) ∧ (↑i : Int) < (↑(List.length l) : Int)) ::
   ((trows l)[0 + i]? = some [AV.val (Value.int IntKind.i64 x), AV.val (Value.int IntKind.u8 (8 : Int)), AV.val (Value.int IntKind.u8 (8 : Int)), AV.val (Value.int IntKind.u8 (8 : Int)), AV.val (Value.int IntKind.u8 (1 : Int)), AV.val (Value.int IntKind.i64 (80 : Int)), AV.val (Value.int IntKind.i64 s), AV.val (Value.bool false)]) ::
   (decide (s ≥ (5 : Int)) = true) ::
   (AV.val (Value.int IntKind.i64 (↑i : Int)) = AV.val (Value.int IntKind.i64 (↑i : Int))) ::
   (SameO (some { t := 92, sz := 8, exact := false, fz := false, body := Body.flat (trows l) }) { t := 92, sz := 8, exact := false, fz := false, body := Body.flat (List.map (fun x => (AV.brecOn_1.go x (AV.ren._f (renX 1 [] 18)) (renL._f (renX 1 [] 18))).1) (trows l)) }) :: []) := by kernel_rfl

set_option maxRecDepth 100000 in
theorem iy_end (l : List (Int × Int)) : stepXS noneKnown [(77, { br := [(9, false)] })] Try.prog 77 2 (iyG l (List.length l)) (iyE l) [] 1 [] =
   some (.exit 0,
   (decide ((↑(List.length l) : Int) < (↑(List.length l) : Int)) = false) ::
   (SameO (some { t := 92, sz := 8, exact := false, fz := false, body := Body.flat (trows l) }) { t := 92, sz := 8, exact := false, fz := false, body := Body.flat (List.map (fun x => (AV.brecOn_1.go x (AV.ren._f (renX 1 [] 2)) (renL._f (renX 1 [] 2))).1) (trows l)) }) :: []) := by kernel_rfl

set_option maxRecDepth 100000 in
theorem iy_some (l : List (Int × Int)) (i : Nat) : outXS noneKnown [] Try.prog 77 [AV.sl 0 0 (List.length l) none, AV.fn (Fn.func 79) []] [(0, { t := 92, sz := 8, exact := false, fz := false, body := Body.flat (trows l) })] 1 [0] [(2, iyLR l i)] =
   some (AV.val (Value.int IntKind.i64 (↑i : Int)), [(0, { t := 92, sz := 8, exact := false, fz := false, body := Body.flat (trows l) })], 1,
   (AV.fn (Fn.func 79) [] = AV.fn (Fn.func 79) []) ::
   (AV.sl 0 0 (List.length l) none = AV.sl 0 0 (List.length l) none) ::
   (AV.val (Value.int IntKind.i64 (↑(List.length l) : Int)) = AV.val (Value.int IntKind.i64 (↑(List.length l) : Int))) ::
   (AV.val (Value.int IntKind.i64 (0 : Int)) = AV.val (Value.int IntKind.i64 (0 : Int))) ::
   (SameO (some { t := 92, sz := 8, exact := false, fz := false, body := Body.flat (trows l) }) { t := 92, sz := 8, exact := false, fz := false, body := Body.flat (List.map (fun x => (AV.brecOn_1.go x (AV.ren._f (renX 1 [] 5)) (renL._f (renX 1 [] 5))).1) (trows l)) }) ::
   (EvXL Try.prog 1 (loopAt Try.prog 77 2) (GoalX.st (LoopX.G (iyLR l i)) 1) (LoopX.ex (iyLR l i)) (GoalX.st (LoopX.E (iyLR l i)) 1)) :: []) := by kernel_rfl
end Go.Proofs.Ytecmagdefllihaa

/- Looking for a talk in a table: known. -/
namespace Go.Proofs.Ytecmagdefllihaa
open Go.RowKit
set_option linter.unusedSimpArgs false
set_option linter.unusedVariables false

theorem ACall.upTo {P : Program} {g : FuncId} {xs : List AV} {L L' : List (Nat × AObj)} {nx n1 n2 : Nat} {v : AV} (h : ACall P g xs L nx v L' n1) (hn : n1 ≤ n2) : ACall P g xs L nx v L' n2 := by
  intro E w vs hs hr
  refine Calls.mono (h E w vs hs hr) fun e w' ⟨E', u, h1, h2, h3, h4⟩ => ⟨E', u, h1, h2.up hn, h3, h4⟩

theorem i64_succ (i : Nat) (h : i < 1000000000) : AV.val (.int .i64 (IntKind.wrap .i64 ((i : Int) + 1))) = AV.val (.int .i64 ((i + 1 : Nat) : Int)) := by
  congr 2
  simp only [IntKind.wrap, IntKind.signed, IntKind.bits]
  simp
  omega
/-- where the first talk of this port is, counted from i -/
def fIx (o : Int) : List (Int × Int) → Nat → Int
  | [], _ => -1
  | x :: r, i => if x.1 = o then (i : Int) else fIx o r (i + 1)
/-- where the first talk that is over is -/
def fIy : List (Int × Int) → Nat → Int
  | [], _ => -1
  | x :: r, i => if 5 ≤ x.2 then (i : Int) else fIy r (i + 1)

theorem ix_loop (l : List (Int × Int)) (o : Int) (hl : l.length ≤ 1000000) : ∀ (k i : Nat), i + k = l.length →
    (∀ n : Nat, fIx o (l.drop i) i = (n : Int) → EvXL Try.prog 4 (loopAt Try.prog 77 2) ((ixG l o i).st 4) .ret ((ixR l o n).st 4)) ∧
    (fIx o (l.drop i) i = -1 → EvXL Try.prog 4 (loopAt Try.prog 77 2) ((ixG l o i).st 4) (.exit 0) ((ixE l o).st 4))
  | 0, i, hk => by
    obtain rfl : i = l.length := by omega
    rw [List.drop_length]
    refine ⟨fun n h => ?_, fun _ => ?_⟩
    · have h : (-1 : Int) = (n : Int) := h
      omega
    · exact EvXL.last (stepXS_ok noneKnown_ok (ix_end l o) (by
        repeat' (first | exact allNil | refine allCons ?_ ?_ | (with_reducible refine allRp _ ?_ ?_))
        all_goals first | (with_reducible rfl) | exact decide_eq_false (by omega) | exact same_tr (fun _ => rfl) rfl | exact rfl)) (by simp)
  | k + 1, i, hk => by
    have hi : i < l.length := by omega
    have hx : l[i]? = some (l[i].1, l[i].2) := List.getElem?_eq_getElem hi
    have hd : l.drop i = l[i] :: l.drop (i + 1) := List.drop_eq_getElem_cons hi
    rw [hd]
    by_cases h : l[i].1 = o
    · have e : fIx o (l[i] :: l.drop (i + 1)) i = (i : Int) := if_pos h
      rw [e]
      refine ⟨fun n hn => ?_, fun hn => by omega⟩
      obtain rfl : i = n := by omega
      exact EvXL.last (stepXS_ok noneKnown_ok (ix_hit l o i l[i].1 l[i].2) (by
        repeat' (first | exact allNil | refine allCons ?_ ?_ | (with_reducible refine allRp _ ?_ ?_))
        all_goals first | (with_reducible rfl) | exact decide_eq_true (by omega) | omega | (rw [Nat.zero_add]; exact trows_get hx) | exact beq_iff_eq.2 h | exact same_tr (fun _ => rfl) rfl | exact rfl)) (by simp)
    · have e : fIx o (l[i] :: l.drop (i + 1)) i = fIx o (l.drop (i + 1)) (i + 1) := if_neg h
      rw [e]
      have hs : EvX Try.prog 4 (loopAt Try.prog 77 2) ((ixG l o i).st 4) .normal ((ixG l o (i + 1)).st 4) := stepXS_ok noneKnown_ok (ix_no l o i l[i].1 l[i].2) (by
        repeat' (first | exact allNil | refine allCons ?_ ?_ | (with_reducible refine allRp _ ?_ ?_))
        all_goals first | (with_reducible rfl) | exact decide_eq_true (by omega) | omega | (rw [Nat.zero_add]; exact trows_get hx) | exact beq_eq_false_iff_ne.2 h | exact i64_succ i (by omega) | exact same_tr (fun _ => rfl) rfl | exact rfl)
      obtain ⟨ih1, ih2⟩ := ix_loop l o hl k (i + 1) (by omega)
      exact ⟨fun n h => EvXL.step hs (ih1 n h), fun h => EvXL.step hs (ih2 h)⟩

theorem iy_loop (l : List (Int × Int)) (hl : l.length ≤ 1000000) : ∀ (k i : Nat), i + k = l.length →
    (∀ n : Nat, fIy (l.drop i) i = (n : Int) → EvXL Try.prog 1 (loopAt Try.prog 77 2) ((iyG l i).st 1) .ret ((iyR l n).st 1)) ∧
    (fIy (l.drop i) i = -1 → EvXL Try.prog 1 (loopAt Try.prog 77 2) ((iyG l i).st 1) (.exit 0) ((iyE l).st 1))
  | 0, i, hk => by
    obtain rfl : i = l.length := by omega
    rw [List.drop_length]
    refine ⟨fun n h => ?_, fun _ => ?_⟩
    · have h : (-1 : Int) = (n : Int) := h
      omega
    · exact EvXL.last (stepXS_ok noneKnown_ok (iy_end l) (by
        repeat' (first | exact allNil | refine allCons ?_ ?_ | (with_reducible refine allRp _ ?_ ?_))
        all_goals first | (with_reducible rfl) | exact decide_eq_false (by omega) | exact same_tr (fun _ => rfl) rfl | exact rfl)) (by simp)
  | k + 1, i, hk => by
    have hi : i < l.length := by omega
    have hx : l[i]? = some (l[i].1, l[i].2) := List.getElem?_eq_getElem hi
    have hd : l.drop i = l[i] :: l.drop (i + 1) := List.drop_eq_getElem_cons hi
    rw [hd]
    by_cases h : 5 ≤ l[i].2
    · have e : fIy (l[i] :: l.drop (i + 1)) i = (i : Int) := if_pos h
      rw [e]
      refine ⟨fun n hn => ?_, fun hn => by omega⟩
      obtain rfl : i = n := by omega
      exact EvXL.last (stepXS_ok noneKnown_ok (iy_hit l i l[i].1 l[i].2) (by
        repeat' (first | exact allNil | refine allCons ?_ ?_ | (with_reducible refine allRp _ ?_ ?_))
        all_goals first | (with_reducible rfl) | exact decide_eq_true (by omega) | omega | (rw [Nat.zero_add]; exact trows_get hx) | exact decide_eq_true (by omega) | exact same_tr (fun _ => rfl) rfl | exact rfl)) (by simp)
    · have e : fIy (l[i] :: l.drop (i + 1)) i = fIy (l.drop (i + 1)) (i + 1) := if_neg h
      rw [e]
      have hs : EvX Try.prog 1 (loopAt Try.prog 77 2) ((iyG l i).st 1) .normal ((iyG l (i + 1)).st 1) := stepXS_ok noneKnown_ok (iy_no l i l[i].1 l[i].2) (by
        repeat' (first | exact allNil | refine allCons ?_ ?_ | (with_reducible refine allRp _ ?_ ?_))
        all_goals first | (with_reducible rfl) | exact decide_eq_true (by omega) | omega | (rw [Nat.zero_add]; exact trows_get hx) | exact decide_eq_false (by omega) | exact i64_succ i (by omega) | exact same_tr (fun _ => rfl) rfl | exact rfl)
      obtain ⟨ih1, ih2⟩ := iy_loop l hl k (i + 1) (by omega)
      exact ⟨fun n h => EvXL.step hs (ih1 n h), fun h => EvXL.step hs (ih2 h)⟩
theorem fIx_nat (o : Int) : ∀ (l : List (Int × Int)) (i : Nat), fIx o l i ≠ -1 → ∃ n : Nat, fIx o l i = (n : Int)
  | [], _, h => absurd rfl h
  | x :: r, i, h => by
    unfold fIx at h ⊢
    split
    · exact ⟨i, rfl⟩
    · rename_i c
      rw [if_neg c] at h
      exact fIx_nat o r (i + 1) h

/-- the first talk of this port -/
theorem ix_call (l : List (Int × Int)) (o : Int) (hl : l.length ≤ 1000000) : ACall Try.prog 77 [.sl 0 0 l.length none, ixF] [(0, tObj l), (1, intO o), (2, addrO), (3, intO 80)] 4 (i64 (fIx o l 0)) [(0, tObj l), (1, intO o), (2, addrO), (3, intO 80)] 5 := by
  have L := ix_loop l o hl l.length 0 (by omega)
  rw [List.drop_zero] at L
  by_cases h : fIx o l 0 = -1
  · rw [h]
    have h := outXS_ok noneKnown_ok (ix_none l o) (by
      repeat' (first | exact allNil | refine allCons ?_ ?_ | (with_reducible refine allRp _ ?_ ?_))
      all_goals first | (with_reducible rfl) | exact L.2 h | exact same_tr (fun _ => rfl) rfl | exact rfl)
    exact h.upTo (by decide)
  · obtain ⟨n, hn⟩ := fIx_nat o l 0 h
    rw [hn]
    have h := outXS_ok noneKnown_ok (ix_some l o n) (by
      repeat' (first | exact allNil | refine allCons ?_ ?_ | (with_reducible refine allRp _ ?_ ?_))
      all_goals first | (with_reducible rfl) | exact L.1 n hn | exact same_tr (fun _ => rfl) rfl | exact rfl)
    exact h.upTo (by decide)
theorem iy_call (l : List (Int × Int)) (n : Nat) (hl : l.length ≤ 1000000) (hn : fIy l 0 = (n : Int)) : ACall Try.prog 77 [.sl 0 0 l.length none, iyF] [(0, tObj l)] 1 (i64 n) [(0, tObj l)] 2 := by
  have L := iy_loop l hl l.length 0 (by omega)
  rw [List.drop_zero] at L
  have h := outXS_ok noneKnown_ok (iy_some l n) (by
    repeat' (first | exact allNil | refine allCons ?_ ?_ | (with_reducible refine allRp _ ?_ ?_))
    all_goals first | (with_reducible rfl) | exact L.1 n hn | exact same_tr (fun _ => rfl) rfl | exact rfl)
  exact h.upTo (by decide)
end Go.Proofs.Ytecmagdefllihaa
