/- Several texts in one: Dq0, DqRun, Dq, Dr. -/
import Derived.Test.YtmilcpejchjleaaMdo
import Derived.Test.YtmilcpejchjleaaRp
import Derived.Test.YtmilcpejchjleaaMez
import Derived.Test.YtmilcpejchjleaaFx

/- A message that is read (dns.Get): words, and what the heads of the loop say. -/
namespace Go.Proofs.Ytmilcpejchjleaa
open Go.RowKit

/-- so many questions; where the reader is then, what was wrong -/
def qzS (b : List UInt8) : Nat → Nat → Int → List DQ
  | 0, _, _ => []
  | k + 1, a, e => qzQ b a e :: qzS b k (rzA3 b a e) (rzE3 b a e)
def qzF (b : List UInt8) : Nat → Nat → Int → Nat × Int
  | 0, a, e => (a, e)
  | k + 1, a, e => qzF b k (rzA3 b a e) (rzE3 b a e)

def gzM (id fl : Int) (x : AV) : AObj := objOne 36 [iI id, iI fl, x, nilS, nilS, nilS]
def gzN (c0 c1 c2 c3 : Nat) : AObj := objOne 147 [sI c0, sI c1, sI c2, sI c3]
def gzR : AObj := objOne 36 [iI 0, iI 0, nilS, nilS, nilS, nilS]
def gzG0 (b : List UInt8) (id fl : Int) (c0 c1 c2 c3 : Nat) (a : Nat) (e : Int) : GoalX := { len := 91, tms := [(2, .ptr 3 0 0), (4, .ptr 0 0 0), (5, .ptr 1 0 0), (6, .ptr 2 0 0)], opn := [(0, .bytes b), (45, sI c0), (46, sI 0)], oob := [(0, rdr b a e), (1, gzM id fl nilS), (2, gzN c0 c1 c2 c3), (3, gzR)], k := 4 }
def gzG (b : List UInt8) (id fl : Int) (c0 c1 c2 c3 : Nat) (a : Nat) (e : Int) (i : Nat) (l : List DQ) : GoalX := { len := 91, tms := [(2, .ptr 3 0 0), (4, .ptr 0 0 0), (5, .ptr 1 0 0), (6, .ptr 2 0 0)], opn := [(0, .bytes b), (45, sI c0), (46, sI i)], oob := [(0, rdr b a e), (1, gzM id fl (.sl 4 0 l.length none)), (2, gzN c0 c1 c2 c3), (3, gzR), (4, objFlat 31 3 (rowsQ l))], k := 5 }
def gzGr (b : List UInt8) (id fl : Int) (c0 c1 c2 c3 : Nat) (a : Nat) (e : Int) (i : Nat) (l : List DQ) : GoalX := { len := 91, tms := [(2, .ptr 3 0 0), (4, .ptr 0 0 0), (5, .ptr 1 0 0), (6, .ptr 2 0 0)], opn := [(0, .bytes b), (45, sI c0), (46, sI i)], oob := [(0, rdr b a e), (1, gzM id fl (.sl 4 0 l.length none)), (2, gzN c0 c1 c2 c3), (3, gzR), (4, objAppR 31 3 (rowsQ l))], k := 5 }
def gzX0 (b : List UInt8) (id fl : Int) (c0 c1 c2 c3 : Nat) (a : Nat) (e : Int) : GoalX := { len := 91, tms := [(2, .ptr 3 0 0), (4, .ptr 0 0 0), (5, .ptr 1 0 0), (6, .ptr 2 0 0)], opn := [(0, .bytes b)], oob := [(0, rdr b a e), (1, gzM id fl nilS), (2, gzN c0 c1 c2 c3), (3, gzR)], k := 5 }
def gzX (b : List UInt8) (id fl : Int) (c0 c1 c2 c3 : Nat) (a : Nat) (e : Int) (l : List DQ) : GoalX := { len := 91, tms := [(2, .ptr 3 0 0), (4, .ptr 0 0 0), (5, .ptr 1 0 0), (6, .ptr 2 0 0)], opn := [(0, .bytes b)], oob := [(0, rdr b a e), (1, gzM id fl (.sl 4 0 l.length none)), (2, gzN c0 c1 c2 c3), (3, gzR), (4, objFlat 31 3 (rowsQ l))], k := 5 }
def gzE (b : List UInt8) (id fl : Int) (c0 c1 c2 c3 : Nat) (a : Nat) (e : Int) (l : List DQ) : GoalX := { len := 91, tms := [(2, .ptr 3 0 0), (4, .ptr 0 0 0), (5, .ptr 1 0 0), (6, .ptr 2 0 0)], opn := [(0, .bytes b)], oob := [(0, rdr b a e), (1, gzM id fl (vQ l)), (2, gzN c0 c1 c2 c3), (3, gzR)], k := 5 }
def gzL (b : List UInt8) (id fl : Int) (c0 c1 c2 c3 : Nat) (a : Nat) (e : Int) (ids : List Nat) (a' : Nat) (e' : Int) (l : List DQ) : LoopX := { ids := ids, G := gzG0 b id fl c0 c1 c2 c3 a e, ex := .exit 3, E := gzE b id fl c0 c1 c2 c3 a' e' l }
/-- a pair that is all there -/
def kRpx : Inl := kMeth 92 399 fun b a e ys =>
  match ys with
  | [] => some (iI (pr2 b a 0), a + 2, 0, [b.length ≤ 1000000, a + 2 ≤ b.length, e = 0])
  | _ => none
theorem kRpx_ok : InlOk Try.prog kRpx := kMeth_ok fun b a e ys v a' e' q hF hq => by
  split at hF
  · simp only [Option.some.injEq, Prod.mk.injEq] at hF
    obtain ⟨rfl, rfl, rfl, rfl⟩ := hF
    simp only [List.forall_mem_cons, List.not_mem_nil, false_implies, implies_true, and_true] at hq
    obtain ⟨q1, q2, rfl⟩ := hq
    have h := rp_call b a 0 q1 (by omega)
    have e1 : rdA b a 0 2 = a + 2 := if_pos ⟨rfl, q2⟩
    have e2 : rdE b a 0 2 = 0 := by unfold rdE; rw [if_pos rfl, if_pos q2]
    rw [e1, e2] at h
    exact ⟨fun r => rfl, fun r => rfl, 400, by decide, h⟩
  · cases hF
def kRd7 : Inl := orInl kRpx kRd6
theorem kRd7_ok : InlOk Try.prog kRd7 := orInl_ok kRpx_ok kRd6_ok
end Go.Proofs.Ytmilcpejchjleaa

/- A message that is read (runs). No condition. -/
namespace Go.Proofs.Ytmilcpejchjleaa
open Go.RowKit

set_option maxRecDepth 100000 in
theorem gz_step0 (b : List UInt8) (id : Int) (fl : Int) (c0 : Nat) (c1 : Nat) (c2 : Nat) (c3 : Nat) (a : Nat) (e : Int) : stepXS kRd6 [(57, { br := [(47, true)], ob := [(20, 3)] })] Try.prog 57 19 (gzG0 b id fl c0 c1 c2 c3 a e) (gzGr b id fl c0 c1 c2 c3 (rzA3 b a e) (rzE3 b a e) 1 [qzQ b a e]) [0, 1, 2, 3, 10] 0 [] =
   some (.normal,
   (decide ((0 : Int) < (↑c0 : Int)) = true) ::
   ((0 : Int) ≤ (↑a : Int)) ::
   (List.length b ≤ 1000000) ::
   (a ≤ List.length b) ::
   (AV.bytes b = AV.bytes b) ::
   (iI (↑c0 : Int) = iI (↑c0 : Int)) ::
   (iI (1 : Int) = iI (1 : Int)) ::
   (SameO (some (objOne 146 [AV.bytes b, iI (↑(rzA3 b a e) : Int), iI (rzE3 b a e)])) (objOne 146 [AV.bytes b, iI (↑(rzA3 b a e) : Int), iI (rzE3 b a e)])) ::
   (SameO (some (objOne 36 [iI id, iI fl, AV.sl 10 0 1 none, AV.val (Value.slice none 0 0), AV.val (Value.slice none 0 0), AV.val (Value.slice none 0 0)])) (objOne 36 [iI id, iI fl, AV.sl 10 0 1 none, AV.val (Value.slice none 0 0), AV.val (Value.slice none 0 0), AV.val (Value.slice none 0 0)])) ::
   (SameO (some (objOne 147 [iI (↑c0 : Int), iI (↑c1 : Int), iI (↑c2 : Int), iI (↑c3 : Int)])) (objOne 147 [iI (↑c0 : Int), iI (↑c1 : Int), iI (↑c2 : Int), iI (↑c3 : Int)])) ::
   (SameO (some (objOne 36 [iI (0 : Int), iI (0 : Int), AV.val (Value.slice none 0 0), AV.val (Value.slice none 0 0), AV.val (Value.slice none 0 0), AV.val (Value.slice none 0 0)])) (objOne 36 [iI (0 : Int), iI (0 : Int), AV.val (Value.slice none 0 0), AV.val (Value.slice none 0 0), AV.val (Value.slice none 0 0), AV.val (Value.slice none 0 0)])) ::
   (SameO (some { t := 31, sz := 3, exact := false, fz := false, body := Body.rows [[AV.view 1 (List.length (nmL b a e)) fun i => [AV.val (Value.string { data := List.toArray (List.getD (nmL b a e) i []) })], iI (rzTy b a e), iI (↑(pr2 b (rzA2 b a e) (rzE2 b a e)) : Int)]] }) { t := 31, sz := 3, exact := false, fz := false, body := Body.rows [[AV.view 1 (List.length (nmL b a e)) fun i => [AV.val (Value.string { data := List.toArray (List.getD (nmL b a e) i []) })], iI (rzTy b a e), iI (↑(pr2 b (rzA2 b a e) (rzE2 b a e)) : Int)]] }) :: []) := by kernel_rfl

set_option maxRecDepth 100000 in
theorem gz_end0 (b : List UInt8) (id : Int) (fl : Int) (c0 : Nat) (c1 : Nat) (c2 : Nat) (c3 : Nat) (a : Nat) (e : Int) : stepXS kRd6 [(57, { br := [(47, false)] })] Try.prog 57 19 (gzG0 b id fl c0 c1 c2 c3 a e) (gzX0 b id fl c0 c1 c2 c3 a e) [0, 1, 2, 3, 4] 0 [] =
   some (.exit 3,
   (decide ((0 : Int) < (↑c0 : Int)) = false) ::
   (AV.bytes b = AV.bytes b) ::
   (SameO (some (objOne 146 [AV.bytes b, iI (↑a : Int), iI e])) (objOne 146 [AV.bytes b, iI (↑a : Int), iI e])) ::
   (SameO (some (objOne 36 [iI id, iI fl, AV.val (Value.slice none 0 0), AV.val (Value.slice none 0 0), AV.val (Value.slice none 0 0), AV.val (Value.slice none 0 0)])) (objOne 36 [iI id, iI fl, AV.val (Value.slice none 0 0), AV.val (Value.slice none 0 0), AV.val (Value.slice none 0 0), AV.val (Value.slice none 0 0)])) ::
   (SameO (some (objOne 147 [iI (↑c0 : Int), iI (↑c1 : Int), iI (↑c2 : Int), iI (↑c3 : Int)])) (objOne 147 [iI (↑c0 : Int), iI (↑c1 : Int), iI (↑c2 : Int), iI (↑c3 : Int)])) ::
   (SameO (some (objOne 36 [iI (0 : Int), iI (0 : Int), AV.val (Value.slice none 0 0), AV.val (Value.slice none 0 0), AV.val (Value.slice none 0 0), AV.val (Value.slice none 0 0)])) (objOne 36 [iI (0 : Int), iI (0 : Int), AV.val (Value.slice none 0 0), AV.val (Value.slice none 0 0), AV.val (Value.slice none 0 0), AV.val (Value.slice none 0 0)])) :: []) := by kernel_rfl

set_option maxRecDepth 100000 in
theorem gz_step (b : List UInt8) (id : Int) (fl : Int) (c0 : Nat) (c1 : Nat) (c2 : Nat) (c3 : Nat) (a : Nat) (e : Int) (i : Nat) (l : List DQ) : stepXS kRd6 [(57, { br := [(47, true)], ob := [(20, 3), (20, 5)] })] Try.prog 57 19 (gzG b id fl c0 c1 c2 c3 a e i l) (gzG b id fl c0 c1 c2 c3 (rzA3 b a e) (rzE3 b a e) (i + 1) (l ++ [qzQ b a e])) [0, 1, 2, 3, 11] 0 [] =
   some (.normal,
   (decide ((↑i : Int) < (↑c0 : Int)) = true) ::
   ((0 : Int) ≤ (↑a : Int)) ::
   (List.length b ≤ 1000000) ::
   (a ≤ List.length b) ::
   (List.length (rowsQ l) = List.length l) ::
   (List.length l + 1 ≤ 1000000000) ::
   ((List.length l + 1) * 40 ≤ 140737488355328) ::
   (AV.bytes b = AV.bytes b) ::
   (iI (↑c0 : Int) = iI (↑c0 : Int)) ::
   (iI (IntKind.wrap IntKind.i64 ((↑i : Int) + (1 : Int))) = iI (↑(i + 1) : Int)) ::
   (SameO (some (objOne 146 [AV.bytes b, iI (↑(rzA3 b a e) : Int), iI (rzE3 b a e)])) (objOne 146 [AV.bytes b, iI (↑(rzA3 b a e) : Int), iI (rzE3 b a e)])) ::
   (SameO (some (objOne 36 [iI id, iI fl, AV.sl 11 0 (List.length l + 1) none, AV.val (Value.slice none 0 0), AV.val (Value.slice none 0 0), AV.val (Value.slice none 0 0)])) (objOne 36 [iI id, iI fl, AV.sl 11 0 (List.length (l ++ [qzQ b a e])) none, AV.val (Value.slice none 0 0), AV.val (Value.slice none 0 0), AV.val (Value.slice none 0 0)])) ::
   (SameO (some (objOne 147 [iI (↑c0 : Int), iI (↑c1 : Int), iI (↑c2 : Int), iI (↑c3 : Int)])) (objOne 147 [iI (↑c0 : Int), iI (↑c1 : Int), iI (↑c2 : Int), iI (↑c3 : Int)])) ::
   (SameO (some (objOne 36 [iI (0 : Int), iI (0 : Int), AV.val (Value.slice none 0 0), AV.val (Value.slice none 0 0), AV.val (Value.slice none 0 0), AV.val (Value.slice none 0 0)])) (objOne 36 [iI (0 : Int), iI (0 : Int), AV.val (Value.slice none 0 0), AV.val (Value.slice none 0 0), AV.val (Value.slice none 0 0), AV.val (Value.slice none 0 0)])) ::
   (SameO (some { t := 31, sz := 3, exact := false, fz := false, body := Body.flat (rowsQ l ++ [[AV.view 1 (List.length (nmL b a e)) fun i => [AV.val (Value.string { data := List.toArray (List.getD (nmL b a e) i []) })], iI (rzTy b a e), iI (↑(pr2 b (rzA2 b a e) (rzE2 b a e)) : Int)]]) }) { t := 31, sz := 3, exact := false, fz := false, body := Body.flat (List.map (fun x => (AV.brecOn_1.go x (AV.ren._f (renX 0 [0, 1, 2, 3, 11] 1115)) (renL._f (renX 0 [0, 1, 2, 3, 11] 1115))).1) (rowsQ (l ++ [qzQ b a e]))) }) :: []) := by kernel_rfl

set_option maxRecDepth 100000 in
theorem gz_end (b : List UInt8) (id : Int) (fl : Int) (c0 : Nat) (c1 : Nat) (c2 : Nat) (c3 : Nat) (a : Nat) (e : Int) (l : List DQ) : stepXS kRd6 [(57, { br := [(47, false)] })] Try.prog 57 19 (gzG b id fl c0 c1 c2 c3 a e c0 l) (gzX b id fl c0 c1 c2 c3 a e l) [0, 1, 2, 3, 4] 0 [] =
   some (.exit 3,
   (decide ((↑c0 : Int) < (↑c0 : Int)) = false) ::
   (AV.bytes b = AV.bytes b) ::
   (SameO (some (objOne 146 [AV.bytes b, iI (↑a : Int), iI e])) (objOne 146 [AV.bytes b, iI (↑a : Int), iI e])) ::
   (SameO (some (objOne 36 [iI id, iI fl, AV.sl 4 0 (List.length l) none, AV.val (Value.slice none 0 0), AV.val (Value.slice none 0 0), AV.val (Value.slice none 0 0)])) (objOne 36 [iI id, iI fl, AV.sl 4 0 (List.length l) none, AV.val (Value.slice none 0 0), AV.val (Value.slice none 0 0), AV.val (Value.slice none 0 0)])) ::
   (SameO (some (objOne 147 [iI (↑c0 : Int), iI (↑c1 : Int), iI (↑c2 : Int), iI (↑c3 : Int)])) (objOne 147 [iI (↑c0 : Int), iI (↑c1 : Int), iI (↑c2 : Int), iI (↑c3 : Int)])) ::
   (SameO (some (objOne 36 [iI (0 : Int), iI (0 : Int), AV.val (Value.slice none 0 0), AV.val (Value.slice none 0 0), AV.val (Value.slice none 0 0), AV.val (Value.slice none 0 0)])) (objOne 36 [iI (0 : Int), iI (0 : Int), AV.val (Value.slice none 0 0), AV.val (Value.slice none 0 0), AV.val (Value.slice none 0 0), AV.val (Value.slice none 0 0)])) ::
   (SameO (some { t := 31, sz := 3, exact := false, fz := false, body := Body.flat (rowsQ l) }) { t := 31, sz := 3, exact := false, fz := false, body := Body.flat (List.map (fun x => (AV.brecOn_1.go x (AV.ren._f (renX 0 [0, 1, 2, 3, 4] 6)) (renL._f (renX 0 [0, 1, 2, 3, 4] 6))).1) (rowsQ l)) }) :: []) := by kernel_rfl

set_option maxRecDepth 100000 in
theorem mg_big (b : List UInt8) : outXS kRd7 [(57, { br := [(9, true)] })] Try.prog 57 [AV.bytes b] [] 0 [] [] =
   some (AV.tup [AV.agg [iI (0 : Int), iI (0 : Int), AV.val (Value.slice none 0 0), AV.val (Value.slice none 0 0), AV.val (Value.slice none 0 0), AV.val (Value.slice none 0 0)], iI (2 : Int)], [], 9,
   (decide ((↑(List.length b) : Int) > (1472 : Int)) = true) :: []) := by kernel_rfl

set_option maxRecDepth 100000 in
theorem mg_short (b : List UInt8) : outXS kRd7 [(57, { br := [(9, false), (14, true)] })] Try.prog 57 [AV.bytes b] [] 0 [] [] =
   some (AV.tup [AV.agg [iI (0 : Int), iI (0 : Int), AV.val (Value.slice none 0 0), AV.val (Value.slice none 0 0), AV.val (Value.slice none 0 0), AV.val (Value.slice none 0 0)], iI (3 : Int)], [], 13,
   (decide ((↑(List.length b) : Int) > (1472 : Int)) = false) ::
   (decide ((↑(List.length b) : Int) < (12 : Int)) = true) :: []) := by kernel_rfl

set_option maxRecDepth 100000 in
theorem mg_many (b : List UInt8) : outXS kRd7 [(57, { br := [(9, false), (14, false), (42, true)], ob := [(6, 1), (7, 1), (13, 2)] })] Try.prog 57 [AV.bytes b] [] 0 [] [] =
   some (AV.tup [AV.agg [iI (0 : Int), iI (0 : Int), AV.val (Value.slice none 0 0), AV.val (Value.slice none 0 0), AV.val (Value.slice none 0 0), AV.val (Value.slice none 0 0)], iI (2 : Int)], [], 2490,
   (decide ((↑(List.length b) : Int) > (1472 : Int)) = false) ::
   (decide ((↑(List.length b) : Int) < (12 : Int)) = false) ::
   ((0 : Int) ≤ (0 : Int)) ::
   (List.length b ≤ 1000000) ::
   (2 ≤ List.length b) ::
   ((0 : Int) = (0 : Int)) ::
   ((0 : Int) ≤ (2 : Int)) ::
   (List.length b ≤ 1000000) ::
   (4 ≤ List.length b) ::
   ((0 : Int) = (0 : Int)) ::
   ((0 : Int) ≤ (4 : Int)) ::
   (List.length b ≤ 1000000) ::
   (6 ≤ List.length b) ::
   ((0 : Int) = (0 : Int)) ::
   ((0 : Int) ≤ (6 : Int)) ::
   (List.length b ≤ 1000000) ::
   (8 ≤ List.length b) ::
   ((0 : Int) = (0 : Int)) ::
   ((0 : Int) ≤ (8 : Int)) ::
   (List.length b ≤ 1000000) ::
   (10 ≤ List.length b) ::
   ((0 : Int) = (0 : Int)) ::
   ((0 : Int) ≤ (10 : Int)) ::
   (List.length b ≤ 1000000) ::
   (12 ≤ List.length b) ::
   ((0 : Int) = (0 : Int)) ::
   (decide (IntKind.wrap IntKind.i64 (IntKind.wrap IntKind.i64 (IntKind.wrap IntKind.i64 (IntKind.wrap IntKind.i64 ((0 : Int) + (↑(pr2 b 4 (0 : Int)) : Int)) + (↑(pr2 b 6 (0 : Int)) : Int)) + (↑(pr2 b 8 (0 : Int)) : Int)) + (↑(pr2 b 10 (0 : Int)) : Int)) > (64 : Int)) = true) :: []) := by kernel_rfl

set_option maxRecDepth 100000 in
theorem mg_ok (b : List UInt8) (a2 : Nat) (e2 : Int) (l : List DQ) : outXS kRd7 [(57, { br := [(9, false), (14, false), (42, false), (77, false), (84, false)], ob := [(6, 1), (7, 1), (13, 2), (22, 3), (23, 3), (24, 3)] })] Try.prog 57 [AV.bytes b] [] 0 [] [(19, gzL b (↑(pr2 b 0 (0 : Int)) : Int) (↑(pr2 b 2 (0 : Int)) : Int) (pr2 b 4 (0 : Int)) (pr2 b 6 (0 : Int)) (pr2 b 8 (0 : Int)) (pr2 b 10 (0 : Int)) 12 (0 : Int) [12, 17, 821, 0] a2 e2 l)] =
   some (AV.tup [AV.agg [iI (↑(pr2 b 0 (0 : Int)) : Int), iI (↑(pr2 b 2 (0 : Int)) : Int), AV.view 3 (List.length l) fun i => [AV.view 1 (List.length (List.getD l i dq0).1) fun i_1 => [AV.val (Value.string { data := List.toArray (List.getD (List.getD l i dq0).1 i_1 []) })], iI ((List.getD l i dq0).2), iI ((List.getD l i dq0).3)], AV.view 5 (List.length (rzV b (pr2 b 6 (0 : Int)) a2 e2)) fun i => [AV.view 1 (List.length (List.getD (rzV b (pr2 b 6 (0 : Int)) a2 e2) i dr0).1) fun i_1 => [AV.val (Value.string { data := List.toArray (List.getD (List.getD (rzV b (pr2 b 6 (0 : Int)) a2 e2) i dr0).1 i_1 []) })], iI ((List.getD (rzV b (pr2 b 6 (0 : Int)) a2 e2) i dr0).2), iI ((List.getD (rzV b (pr2 b 6 (0 : Int)) a2 e2) i dr0).3), AV.val (Value.int IntKind.u32 (List.getD (rzV b (pr2 b 6 (0 : Int)) a2 e2) i dr0).4), AV.bytes (List.getD (rzV b (pr2 b 6 (0 : Int)) a2 e2) i dr0).5], AV.view 5 (List.length (rzV b (pr2 b 8 (0 : Int)) (rzF b (pr2 b 6 (0 : Int)) a2 e2).1 (rzF b (pr2 b 6 (0 : Int)) a2 e2).2)) fun i => [AV.view 1 (List.length (List.getD (rzV b (pr2 b 8 (0 : Int)) (rzF b (pr2 b 6 (0 : Int)) a2 e2).1 (rzF b (pr2 b 6 (0 : Int)) a2 e2).2) i dr0).1) fun i_1 => [AV.val (Value.string { data := List.toArray (List.getD (List.getD (rzV b (pr2 b 8 (0 : Int)) (rzF b (pr2 b 6 (0 : Int)) a2 e2).1 (rzF b (pr2 b 6 (0 : Int)) a2 e2).2) i dr0).1 i_1 []) })], iI ((List.getD (rzV b (pr2 b 8 (0 : Int)) (rzF b (pr2 b 6 (0 : Int)) a2 e2).1 (rzF b (pr2 b 6 (0 : Int)) a2 e2).2) i dr0).2), iI ((List.getD (rzV b (pr2 b 8 (0 : Int)) (rzF b (pr2 b 6 (0 : Int)) a2 e2).1 (rzF b (pr2 b 6 (0 : Int)) a2 e2).2) i dr0).3), AV.val (Value.int IntKind.u32 (List.getD (rzV b (pr2 b 8 (0 : Int)) (rzF b (pr2 b 6 (0 : Int)) a2 e2).1 (rzF b (pr2 b 6 (0 : Int)) a2 e2).2) i dr0).4), AV.bytes (List.getD (rzV b (pr2 b 8 (0 : Int)) (rzF b (pr2 b 6 (0 : Int)) a2 e2).1 (rzF b (pr2 b 6 (0 : Int)) a2 e2).2) i dr0).5], AV.view 5 (List.length (rzV b (pr2 b 10 (0 : Int)) (rzF b (pr2 b 8 (0 : Int)) (rzF b (pr2 b 6 (0 : Int)) a2 e2).1 (rzF b (pr2 b 6 (0 : Int)) a2 e2).2).1 (rzF b (pr2 b 8 (0 : Int)) (rzF b (pr2 b 6 (0 : Int)) a2 e2).1 (rzF b (pr2 b 6 (0 : Int)) a2 e2).2).2)) fun i => [AV.view 1 (List.length (List.getD (rzV b (pr2 b 10 (0 : Int)) (rzF b (pr2 b 8 (0 : Int)) (rzF b (pr2 b 6 (0 : Int)) a2 e2).1 (rzF b (pr2 b 6 (0 : Int)) a2 e2).2).1 (rzF b (pr2 b 8 (0 : Int)) (rzF b (pr2 b 6 (0 : Int)) a2 e2).1 (rzF b (pr2 b 6 (0 : Int)) a2 e2).2).2) i dr0).1) fun i_1 => [AV.val (Value.string { data := List.toArray (List.getD (List.getD (rzV b (pr2 b 10 (0 : Int)) (rzF b (pr2 b 8 (0 : Int)) (rzF b (pr2 b 6 (0 : Int)) a2 e2).1 (rzF b (pr2 b 6 (0 : Int)) a2 e2).2).1 (rzF b (pr2 b 8 (0 : Int)) (rzF b (pr2 b 6 (0 : Int)) a2 e2).1 (rzF b (pr2 b 6 (0 : Int)) a2 e2).2).2) i dr0).1 i_1 []) })], iI ((List.getD (rzV b (pr2 b 10 (0 : Int)) (rzF b (pr2 b 8 (0 : Int)) (rzF b (pr2 b 6 (0 : Int)) a2 e2).1 (rzF b (pr2 b 6 (0 : Int)) a2 e2).2).1 (rzF b (pr2 b 8 (0 : Int)) (rzF b (pr2 b 6 (0 : Int)) a2 e2).1 (rzF b (pr2 b 6 (0 : Int)) a2 e2).2).2) i dr0).2), iI ((List.getD (rzV b (pr2 b 10 (0 : Int)) (rzF b (pr2 b 8 (0 : Int)) (rzF b (pr2 b 6 (0 : Int)) a2 e2).1 (rzF b (pr2 b 6 (0 : Int)) a2 e2).2).1 (rzF b (pr2 b 8 (0 : Int)) (rzF b (pr2 b 6 (0 : Int)) a2 e2).1 (rzF b (pr2 b 6 (0 : Int)) a2 e2).2).2) i dr0).3), AV.val (Value.int IntKind.u32 (List.getD (rzV b (pr2 b 10 (0 : Int)) (rzF b (pr2 b 8 (0 : Int)) (rzF b (pr2 b 6 (0 : Int)) a2 e2).1 (rzF b (pr2 b 6 (0 : Int)) a2 e2).2).1 (rzF b (pr2 b 8 (0 : Int)) (rzF b (pr2 b 6 (0 : Int)) a2 e2).1 (rzF b (pr2 b 6 (0 : Int)) a2 e2).2).2) i dr0).4), AV.bytes (List.getD (rzV b (pr2 b 10 (0 : Int)) (rzF b (pr2 b 8 (0 : Int)) (rzF b (pr2 b 6 (0 : Int)) a2 e2).1 (rzF b (pr2 b 6 (0 : Int)) a2 e2).2).1 (rzF b (pr2 b 8 (0 : Int)) (rzF b (pr2 b 6 (0 : Int)) a2 e2).1 (rzF b (pr2 b 6 (0 : Int)) a2 e2).2).2) i dr0).5]], iI (0 : Int)], [], 95,
   (decide ((↑(List.length b) : Int) > (1472 : Int)) = false) ::
   (decide ((↑(List.length b) : Int) < (12 : Int)) = false) ::
   ((0 : Int) ≤ (0 : Int)) ::
   (List.length b ≤ 1000000) ::
   (2 ≤ List.length b) ::
   ((0 : Int) = (0 : Int)) ::
   ((0 : Int) ≤ (2 : Int)) ::
   (List.length b ≤ 1000000) ::
   (4 ≤ List.length b) ::
   ((0 : Int) = (0 : Int)) ::
   ((0 : Int) ≤ (4 : Int)) ::
   (List.length b ≤ 1000000) ::
   (6 ≤ List.length b) ::
   ((0 : Int) = (0 : Int)) ::
   ((0 : Int) ≤ (6 : Int)) ::
   (List.length b ≤ 1000000) ::
   (8 ≤ List.length b) ::
   ((0 : Int) = (0 : Int)) ::
   ((0 : Int) ≤ (8 : Int)) ::
   (List.length b ≤ 1000000) ::
   (10 ≤ List.length b) ::
   ((0 : Int) = (0 : Int)) ::
   ((0 : Int) ≤ (10 : Int)) ::
   (List.length b ≤ 1000000) ::
   (12 ≤ List.length b) ::
   ((0 : Int) = (0 : Int)) ::
   (decide (IntKind.wrap IntKind.i64 (IntKind.wrap IntKind.i64 (IntKind.wrap IntKind.i64 (IntKind.wrap IntKind.i64 ((0 : Int) + (↑(pr2 b 4 (0 : Int)) : Int)) + (↑(pr2 b 6 (0 : Int)) : Int)) + (↑(pr2 b 8 (0 : Int)) : Int)) + (↑(pr2 b 10 (0 : Int)) : Int)) > (64 : Int)) = false) ::
   (AV.bytes b = AV.bytes b) ::
   (iI (↑(pr2 b 4 (0 : Int)) : Int) = iI (↑(pr2 b 4 (0 : Int)) : Int)) ::
   (iI (0 : Int) = iI (0 : Int)) ::
   (SameO (some (objOne 146 [AV.bytes b, iI (12 : Int), iI (0 : Int)])) (objOne 146 [AV.bytes b, iI (12 : Int), iI (0 : Int)])) ::
   (SameO (some (objOne 36 [iI (↑(pr2 b 0 (0 : Int)) : Int), iI (↑(pr2 b 2 (0 : Int)) : Int), AV.val (Value.slice none 0 0), AV.val (Value.slice none 0 0), AV.val (Value.slice none 0 0), AV.val (Value.slice none 0 0)])) (objOne 36 [iI (↑(pr2 b 0 (0 : Int)) : Int), iI (↑(pr2 b 2 (0 : Int)) : Int), AV.val (Value.slice none 0 0), AV.val (Value.slice none 0 0), AV.val (Value.slice none 0 0), AV.val (Value.slice none 0 0)])) ::
   (SameO (some (objOne 147 [iI (↑(pr2 b 4 (0 : Int)) : Int), iI (↑(pr2 b 6 (0 : Int)) : Int), iI (↑(pr2 b 8 (0 : Int)) : Int), iI (↑(pr2 b 10 (0 : Int)) : Int)])) (objOne 147 [iI (↑(pr2 b 4 (0 : Int)) : Int), iI (↑(pr2 b 6 (0 : Int)) : Int), iI (↑(pr2 b 8 (0 : Int)) : Int), iI (↑(pr2 b 10 (0 : Int)) : Int)])) ::
   (SameO (some (objOne 36 [iI (0 : Int), iI (0 : Int), AV.val (Value.slice none 0 0), AV.val (Value.slice none 0 0), AV.val (Value.slice none 0 0), AV.val (Value.slice none 0 0)])) (objOne 36 [iI (0 : Int), iI (0 : Int), AV.val (Value.slice none 0 0), AV.val (Value.slice none 0 0), AV.val (Value.slice none 0 0), AV.val (Value.slice none 0 0)])) ::
   (EvXL Try.prog 0 (loopAt Try.prog 57 19) (GoalX.st (LoopX.G (gzL b (↑(pr2 b 0 (0 : Int)) : Int) (↑(pr2 b 2 (0 : Int)) : Int) (pr2 b 4 (0 : Int)) (pr2 b 6 (0 : Int)) (pr2 b 8 (0 : Int)) (pr2 b 10 (0 : Int)) 12 (0 : Int) [12, 17, 821, 0] a2 e2 l)) 0) (LoopX.ex (gzL b (↑(pr2 b 0 (0 : Int)) : Int) (↑(pr2 b 2 (0 : Int)) : Int) (pr2 b 4 (0 : Int)) (pr2 b 6 (0 : Int)) (pr2 b 8 (0 : Int)) (pr2 b 10 (0 : Int)) 12 (0 : Int) [12, 17, 821, 0] a2 e2 l)) (GoalX.st (LoopX.E (gzL b (↑(pr2 b 0 (0 : Int)) : Int) (↑(pr2 b 2 (0 : Int)) : Int) (pr2 b 4 (0 : Int)) (pr2 b 6 (0 : Int)) (pr2 b 8 (0 : Int)) (pr2 b 10 (0 : Int)) 12 (0 : Int) [12, 17, 821, 0] a2 e2 l)) 0)) ::
   ((0 : Int) ≤ (↑a2 : Int)) ::
   (List.length b ≤ 1000000) ::
   (a2 ≤ List.length b) ::
   ((0 : Int) ≤ (↑(pr2 b 6 (0 : Int)) : Int) ∧ (↑(pr2 b 6 (0 : Int)) : Int) ≤ (1000 : Int)) ::
   ((0 : Int) ≤ (↑(rzF b (pr2 b 6 (0 : Int)) a2 e2).1 : Int)) ::
   (List.length b ≤ 1000000) ::
   ((rzF b (pr2 b 6 (0 : Int)) a2 e2).1 ≤ List.length b) ::
   ((0 : Int) ≤ (↑(pr2 b 8 (0 : Int)) : Int) ∧ (↑(pr2 b 8 (0 : Int)) : Int) ≤ (1000 : Int)) ::
   ((0 : Int) ≤ (↑(rzF b (pr2 b 8 (0 : Int)) (rzF b (pr2 b 6 (0 : Int)) a2 e2).1 (rzF b (pr2 b 6 (0 : Int)) a2 e2).2).1 : Int)) ::
   (List.length b ≤ 1000000) ::
   ((rzF b (pr2 b 8 (0 : Int)) (rzF b (pr2 b 6 (0 : Int)) a2 e2).1 (rzF b (pr2 b 6 (0 : Int)) a2 e2).2).1 ≤ List.length b) ::
   ((0 : Int) ≤ (↑(pr2 b 10 (0 : Int)) : Int) ∧ (↑(pr2 b 10 (0 : Int)) : Int) ≤ (1000 : Int)) ::
   (decide ((↑(rzF b (pr2 b 10 (0 : Int)) (rzF b (pr2 b 8 (0 : Int)) (rzF b (pr2 b 6 (0 : Int)) a2 e2).1 (rzF b (pr2 b 6 (0 : Int)) a2 e2).2).1 (rzF b (pr2 b 8 (0 : Int)) (rzF b (pr2 b 6 (0 : Int)) a2 e2).1 (rzF b (pr2 b 6 (0 : Int)) a2 e2).2).2).1 : Int) < (↑(List.length b) : Int)) = false) ::
   (((rzF b (pr2 b 10 (0 : Int)) (rzF b (pr2 b 8 (0 : Int)) (rzF b (pr2 b 6 (0 : Int)) a2 e2).1 (rzF b (pr2 b 6 (0 : Int)) a2 e2).2).1 (rzF b (pr2 b 8 (0 : Int)) (rzF b (pr2 b 6 (0 : Int)) a2 e2).1 (rzF b (pr2 b 6 (0 : Int)) a2 e2).2).2).2 != (0 : Int)) = false) :: []) := by kernel_rfl

set_option maxRecDepth 100000 in
theorem mg_f1 (b : List UInt8) (a2 : Nat) (e2 : Int) (l : List DQ) : outXS kRd7 [(95, { br := [(8, true)] }),
   (57, { br := [(9, false), (14, false), (42, false), (77, true)], ob := [(6, 1), (7, 1), (13, 2), (22, 3), (23, 3), (24, 3), (26, 1)] })] Try.prog 57 [AV.bytes b] [] 0 [] [(19, gzL b (↑(pr2 b 0 (0 : Int)) : Int) (↑(pr2 b 2 (0 : Int)) : Int) (pr2 b 4 (0 : Int)) (pr2 b 6 (0 : Int)) (pr2 b 8 (0 : Int)) (pr2 b 10 (0 : Int)) 12 (0 : Int) [12, 17, 821, 0] a2 e2 l)] =
   some (AV.tup [AV.agg [iI (0 : Int), iI (0 : Int), AV.val (Value.slice none 0 0), AV.val (Value.slice none 0 0), AV.val (Value.slice none 0 0), AV.val (Value.slice none 0 0)], iI (4 : Int)], [], 111,
   (decide ((↑(List.length b) : Int) > (1472 : Int)) = false) ::
   (decide ((↑(List.length b) : Int) < (12 : Int)) = false) ::
   ((0 : Int) ≤ (0 : Int)) ::
   (List.length b ≤ 1000000) ::
   (2 ≤ List.length b) ::
   ((0 : Int) = (0 : Int)) ::
   ((0 : Int) ≤ (2 : Int)) ::
   (List.length b ≤ 1000000) ::
   (4 ≤ List.length b) ::
   ((0 : Int) = (0 : Int)) ::
   ((0 : Int) ≤ (4 : Int)) ::
   (List.length b ≤ 1000000) ::
   (6 ≤ List.length b) ::
   ((0 : Int) = (0 : Int)) ::
   ((0 : Int) ≤ (6 : Int)) ::
   (List.length b ≤ 1000000) ::
   (8 ≤ List.length b) ::
   ((0 : Int) = (0 : Int)) ::
   ((0 : Int) ≤ (8 : Int)) ::
   (List.length b ≤ 1000000) ::
   (10 ≤ List.length b) ::
   ((0 : Int) = (0 : Int)) ::
   ((0 : Int) ≤ (10 : Int)) ::
   (List.length b ≤ 1000000) ::
   (12 ≤ List.length b) ::
   ((0 : Int) = (0 : Int)) ::
   (decide (IntKind.wrap IntKind.i64 (IntKind.wrap IntKind.i64 (IntKind.wrap IntKind.i64 (IntKind.wrap IntKind.i64 ((0 : Int) + (↑(pr2 b 4 (0 : Int)) : Int)) + (↑(pr2 b 6 (0 : Int)) : Int)) + (↑(pr2 b 8 (0 : Int)) : Int)) + (↑(pr2 b 10 (0 : Int)) : Int)) > (64 : Int)) = false) ::
   (AV.bytes b = AV.bytes b) ::
   (iI (↑(pr2 b 4 (0 : Int)) : Int) = iI (↑(pr2 b 4 (0 : Int)) : Int)) ::
   (iI (0 : Int) = iI (0 : Int)) ::
   (SameO (some (objOne 146 [AV.bytes b, iI (12 : Int), iI (0 : Int)])) (objOne 146 [AV.bytes b, iI (12 : Int), iI (0 : Int)])) ::
   (SameO (some (objOne 36 [iI (↑(pr2 b 0 (0 : Int)) : Int), iI (↑(pr2 b 2 (0 : Int)) : Int), AV.val (Value.slice none 0 0), AV.val (Value.slice none 0 0), AV.val (Value.slice none 0 0), AV.val (Value.slice none 0 0)])) (objOne 36 [iI (↑(pr2 b 0 (0 : Int)) : Int), iI (↑(pr2 b 2 (0 : Int)) : Int), AV.val (Value.slice none 0 0), AV.val (Value.slice none 0 0), AV.val (Value.slice none 0 0), AV.val (Value.slice none 0 0)])) ::
   (SameO (some (objOne 147 [iI (↑(pr2 b 4 (0 : Int)) : Int), iI (↑(pr2 b 6 (0 : Int)) : Int), iI (↑(pr2 b 8 (0 : Int)) : Int), iI (↑(pr2 b 10 (0 : Int)) : Int)])) (objOne 147 [iI (↑(pr2 b 4 (0 : Int)) : Int), iI (↑(pr2 b 6 (0 : Int)) : Int), iI (↑(pr2 b 8 (0 : Int)) : Int), iI (↑(pr2 b 10 (0 : Int)) : Int)])) ::
   (SameO (some (objOne 36 [iI (0 : Int), iI (0 : Int), AV.val (Value.slice none 0 0), AV.val (Value.slice none 0 0), AV.val (Value.slice none 0 0), AV.val (Value.slice none 0 0)])) (objOne 36 [iI (0 : Int), iI (0 : Int), AV.val (Value.slice none 0 0), AV.val (Value.slice none 0 0), AV.val (Value.slice none 0 0), AV.val (Value.slice none 0 0)])) ::
   (EvXL Try.prog 0 (loopAt Try.prog 57 19) (GoalX.st (LoopX.G (gzL b (↑(pr2 b 0 (0 : Int)) : Int) (↑(pr2 b 2 (0 : Int)) : Int) (pr2 b 4 (0 : Int)) (pr2 b 6 (0 : Int)) (pr2 b 8 (0 : Int)) (pr2 b 10 (0 : Int)) 12 (0 : Int) [12, 17, 821, 0] a2 e2 l)) 0) (LoopX.ex (gzL b (↑(pr2 b 0 (0 : Int)) : Int) (↑(pr2 b 2 (0 : Int)) : Int) (pr2 b 4 (0 : Int)) (pr2 b 6 (0 : Int)) (pr2 b 8 (0 : Int)) (pr2 b 10 (0 : Int)) 12 (0 : Int) [12, 17, 821, 0] a2 e2 l)) (GoalX.st (LoopX.E (gzL b (↑(pr2 b 0 (0 : Int)) : Int) (↑(pr2 b 2 (0 : Int)) : Int) (pr2 b 4 (0 : Int)) (pr2 b 6 (0 : Int)) (pr2 b 8 (0 : Int)) (pr2 b 10 (0 : Int)) 12 (0 : Int) [12, 17, 821, 0] a2 e2 l)) 0)) ::
   ((0 : Int) ≤ (↑a2 : Int)) ::
   (List.length b ≤ 1000000) ::
   (a2 ≤ List.length b) ::
   ((0 : Int) ≤ (↑(pr2 b 6 (0 : Int)) : Int) ∧ (↑(pr2 b 6 (0 : Int)) : Int) ≤ (1000 : Int)) ::
   ((0 : Int) ≤ (↑(rzF b (pr2 b 6 (0 : Int)) a2 e2).1 : Int)) ::
   (List.length b ≤ 1000000) ::
   ((rzF b (pr2 b 6 (0 : Int)) a2 e2).1 ≤ List.length b) ::
   ((0 : Int) ≤ (↑(pr2 b 8 (0 : Int)) : Int) ∧ (↑(pr2 b 8 (0 : Int)) : Int) ≤ (1000 : Int)) ::
   ((0 : Int) ≤ (↑(rzF b (pr2 b 8 (0 : Int)) (rzF b (pr2 b 6 (0 : Int)) a2 e2).1 (rzF b (pr2 b 6 (0 : Int)) a2 e2).2).1 : Int)) ::
   (List.length b ≤ 1000000) ::
   ((rzF b (pr2 b 8 (0 : Int)) (rzF b (pr2 b 6 (0 : Int)) a2 e2).1 (rzF b (pr2 b 6 (0 : Int)) a2 e2).2).1 ≤ List.length b) ::
   ((0 : Int) ≤ (↑(pr2 b 10 (0 : Int)) : Int) ∧ (↑(pr2 b 10 (0 : Int)) : Int) ≤ (1000 : Int)) ::
   (decide ((↑(rzF b (pr2 b 10 (0 : Int)) (rzF b (pr2 b 8 (0 : Int)) (rzF b (pr2 b 6 (0 : Int)) a2 e2).1 (rzF b (pr2 b 6 (0 : Int)) a2 e2).2).1 (rzF b (pr2 b 8 (0 : Int)) (rzF b (pr2 b 6 (0 : Int)) a2 e2).1 (rzF b (pr2 b 6 (0 : Int)) a2 e2).2).2).1 : Int) < (↑(List.length b) : Int)) = true) ::
   (((rzF b (pr2 b 10 (0 : Int)) (rzF b (pr2 b 8 (0 : Int)) (rzF b (pr2 b 6 (0 : Int)) a2 e2).1 (rzF b (pr2 b 6 (0 : Int)) a2 e2).2).1 (rzF b (pr2 b 8 (0 : Int)) (rzF b (pr2 b 6 (0 : Int)) a2 e2).1 (rzF b (pr2 b 6 (0 : Int)) a2 e2).2).2).2 == (0 : Int)) = true) :: []) := by kernel_rfl

set_option maxRecDepth 100000 in
theorem mg_f2 (b : List UInt8) (a2 : Nat) (e2 : Int) (l : List DQ) : outXS kRd7 [(95, { br := [(8, false)] }),
   (57, { br := [(9, false), (14, false), (42, false), (77, true), (84, true)], ob := [(6, 1), (7, 1), (13, 2), (22, 3), (23, 3), (24, 3), (26, 1)] })] Try.prog 57 [AV.bytes b] [] 0 [] [(19, gzL b (↑(pr2 b 0 (0 : Int)) : Int) (↑(pr2 b 2 (0 : Int)) : Int) (pr2 b 4 (0 : Int)) (pr2 b 6 (0 : Int)) (pr2 b 8 (0 : Int)) (pr2 b 10 (0 : Int)) 12 (0 : Int) [12, 17, 821, 0] a2 e2 l)] =
   some (AV.tup [AV.agg [iI (0 : Int), iI (0 : Int), AV.val (Value.slice none 0 0), AV.val (Value.slice none 0 0), AV.val (Value.slice none 0 0), AV.val (Value.slice none 0 0)], iI ((rzF b (pr2 b 10 (0 : Int)) (rzF b (pr2 b 8 (0 : Int)) (rzF b (pr2 b 6 (0 : Int)) a2 e2).1 (rzF b (pr2 b 6 (0 : Int)) a2 e2).2).1 (rzF b (pr2 b 8 (0 : Int)) (rzF b (pr2 b 6 (0 : Int)) a2 e2).1 (rzF b (pr2 b 6 (0 : Int)) a2 e2).2).2).2)], [], 106,
   (decide ((↑(List.length b) : Int) > (1472 : Int)) = false) ::
   (decide ((↑(List.length b) : Int) < (12 : Int)) = false) ::
   ((0 : Int) ≤ (0 : Int)) ::
   (List.length b ≤ 1000000) ::
   (2 ≤ List.length b) ::
   ((0 : Int) = (0 : Int)) ::
   ((0 : Int) ≤ (2 : Int)) ::
   (List.length b ≤ 1000000) ::
   (4 ≤ List.length b) ::
   ((0 : Int) = (0 : Int)) ::
   ((0 : Int) ≤ (4 : Int)) ::
   (List.length b ≤ 1000000) ::
   (6 ≤ List.length b) ::
   ((0 : Int) = (0 : Int)) ::
   ((0 : Int) ≤ (6 : Int)) ::
   (List.length b ≤ 1000000) ::
   (8 ≤ List.length b) ::
   ((0 : Int) = (0 : Int)) ::
   ((0 : Int) ≤ (8 : Int)) ::
   (List.length b ≤ 1000000) ::
   (10 ≤ List.length b) ::
   ((0 : Int) = (0 : Int)) ::
   ((0 : Int) ≤ (10 : Int)) ::
   (List.length b ≤ 1000000) ::
   (12 ≤ List.length b) ::
   ((0 : Int) = (0 : Int)) ::
   (decide (IntKind.wrap IntKind.i64 (IntKind.wrap IntKind.i64 (IntKind.wrap IntKind.i64 (IntKind.wrap IntKind.i64 ((0 : Int) + (↑(pr2 b 4 (0 : Int)) : Int)) + (↑(pr2 b 6 (0 : Int)) : Int)) + (↑(pr2 b 8 (0 : Int)) : Int)) + (↑(pr2 b 10 (0 : Int)) : Int)) > (64 : Int)) = false) ::
   (AV.bytes b = AV.bytes b) ::
   (iI (↑(pr2 b 4 (0 : Int)) : Int) = iI (↑(pr2 b 4 (0 : Int)) : Int)) ::
   (iI (0 : Int) = iI (0 : Int)) ::
   (SameO (some (objOne 146 [AV.bytes b, iI (12 : Int), iI (0 : Int)])) (objOne 146 [AV.bytes b, iI (12 : Int), iI (0 : Int)])) ::
   (SameO (some (objOne 36 [iI (↑(pr2 b 0 (0 : Int)) : Int), iI (↑(pr2 b 2 (0 : Int)) : Int), AV.val (Value.slice none 0 0), AV.val (Value.slice none 0 0), AV.val (Value.slice none 0 0), AV.val (Value.slice none 0 0)])) (objOne 36 [iI (↑(pr2 b 0 (0 : Int)) : Int), iI (↑(pr2 b 2 (0 : Int)) : Int), AV.val (Value.slice none 0 0), AV.val (Value.slice none 0 0), AV.val (Value.slice none 0 0), AV.val (Value.slice none 0 0)])) ::
   (SameO (some (objOne 147 [iI (↑(pr2 b 4 (0 : Int)) : Int), iI (↑(pr2 b 6 (0 : Int)) : Int), iI (↑(pr2 b 8 (0 : Int)) : Int), iI (↑(pr2 b 10 (0 : Int)) : Int)])) (objOne 147 [iI (↑(pr2 b 4 (0 : Int)) : Int), iI (↑(pr2 b 6 (0 : Int)) : Int), iI (↑(pr2 b 8 (0 : Int)) : Int), iI (↑(pr2 b 10 (0 : Int)) : Int)])) ::
   (SameO (some (objOne 36 [iI (0 : Int), iI (0 : Int), AV.val (Value.slice none 0 0), AV.val (Value.slice none 0 0), AV.val (Value.slice none 0 0), AV.val (Value.slice none 0 0)])) (objOne 36 [iI (0 : Int), iI (0 : Int), AV.val (Value.slice none 0 0), AV.val (Value.slice none 0 0), AV.val (Value.slice none 0 0), AV.val (Value.slice none 0 0)])) ::
   (EvXL Try.prog 0 (loopAt Try.prog 57 19) (GoalX.st (LoopX.G (gzL b (↑(pr2 b 0 (0 : Int)) : Int) (↑(pr2 b 2 (0 : Int)) : Int) (pr2 b 4 (0 : Int)) (pr2 b 6 (0 : Int)) (pr2 b 8 (0 : Int)) (pr2 b 10 (0 : Int)) 12 (0 : Int) [12, 17, 821, 0] a2 e2 l)) 0) (LoopX.ex (gzL b (↑(pr2 b 0 (0 : Int)) : Int) (↑(pr2 b 2 (0 : Int)) : Int) (pr2 b 4 (0 : Int)) (pr2 b 6 (0 : Int)) (pr2 b 8 (0 : Int)) (pr2 b 10 (0 : Int)) 12 (0 : Int) [12, 17, 821, 0] a2 e2 l)) (GoalX.st (LoopX.E (gzL b (↑(pr2 b 0 (0 : Int)) : Int) (↑(pr2 b 2 (0 : Int)) : Int) (pr2 b 4 (0 : Int)) (pr2 b 6 (0 : Int)) (pr2 b 8 (0 : Int)) (pr2 b 10 (0 : Int)) 12 (0 : Int) [12, 17, 821, 0] a2 e2 l)) 0)) ::
   ((0 : Int) ≤ (↑a2 : Int)) ::
   (List.length b ≤ 1000000) ::
   (a2 ≤ List.length b) ::
   ((0 : Int) ≤ (↑(pr2 b 6 (0 : Int)) : Int) ∧ (↑(pr2 b 6 (0 : Int)) : Int) ≤ (1000 : Int)) ::
   ((0 : Int) ≤ (↑(rzF b (pr2 b 6 (0 : Int)) a2 e2).1 : Int)) ::
   (List.length b ≤ 1000000) ::
   ((rzF b (pr2 b 6 (0 : Int)) a2 e2).1 ≤ List.length b) ::
   ((0 : Int) ≤ (↑(pr2 b 8 (0 : Int)) : Int) ∧ (↑(pr2 b 8 (0 : Int)) : Int) ≤ (1000 : Int)) ::
   ((0 : Int) ≤ (↑(rzF b (pr2 b 8 (0 : Int)) (rzF b (pr2 b 6 (0 : Int)) a2 e2).1 (rzF b (pr2 b 6 (0 : Int)) a2 e2).2).1 : Int)) ::
   (List.length b ≤ 1000000) ::
   ((rzF b (pr2 b 8 (0 : Int)) (rzF b (pr2 b 6 (0 : Int)) a2 e2).1 (rzF b (pr2 b 6 (0 : Int)) a2 e2).2).1 ≤ List.length b) ::
   ((0 : Int) ≤ (↑(pr2 b 10 (0 : Int)) : Int) ∧ (↑(pr2 b 10 (0 : Int)) : Int) ≤ (1000 : Int)) ::
   (decide ((↑(rzF b (pr2 b 10 (0 : Int)) (rzF b (pr2 b 8 (0 : Int)) (rzF b (pr2 b 6 (0 : Int)) a2 e2).1 (rzF b (pr2 b 6 (0 : Int)) a2 e2).2).1 (rzF b (pr2 b 8 (0 : Int)) (rzF b (pr2 b 6 (0 : Int)) a2 e2).1 (rzF b (pr2 b 6 (0 : Int)) a2 e2).2).2).1 : Int) < (↑(List.length b) : Int)) = true) ::
   (((rzF b (pr2 b 10 (0 : Int)) (rzF b (pr2 b 8 (0 : Int)) (rzF b (pr2 b 6 (0 : Int)) a2 e2).1 (rzF b (pr2 b 6 (0 : Int)) a2 e2).2).1 (rzF b (pr2 b 8 (0 : Int)) (rzF b (pr2 b 6 (0 : Int)) a2 e2).1 (rzF b (pr2 b 6 (0 : Int)) a2 e2).2).2).2 == (0 : Int)) = false) ::
   (((rzF b (pr2 b 10 (0 : Int)) (rzF b (pr2 b 8 (0 : Int)) (rzF b (pr2 b 6 (0 : Int)) a2 e2).1 (rzF b (pr2 b 6 (0 : Int)) a2 e2).2).1 (rzF b (pr2 b 8 (0 : Int)) (rzF b (pr2 b 6 (0 : Int)) a2 e2).1 (rzF b (pr2 b 6 (0 : Int)) a2 e2).2).2).2 != (0 : Int)) = true) :: []) := by kernel_rfl

set_option maxRecDepth 100000 in
theorem mg_f3 (b : List UInt8) (a2 : Nat) (e2 : Int) (l : List DQ) : outXS kRd7 [(57, { br := [(9, false), (14, false), (42, false), (77, false), (84, true)], ob := [(6, 1), (7, 1), (13, 2), (22, 3), (23, 3), (24, 3)] })] Try.prog 57 [AV.bytes b] [] 0 [] [(19, gzL b (↑(pr2 b 0 (0 : Int)) : Int) (↑(pr2 b 2 (0 : Int)) : Int) (pr2 b 4 (0 : Int)) (pr2 b 6 (0 : Int)) (pr2 b 8 (0 : Int)) (pr2 b 10 (0 : Int)) 12 (0 : Int) [12, 17, 821, 0] a2 e2 l)] =
   some (AV.tup [AV.agg [iI (0 : Int), iI (0 : Int), AV.val (Value.slice none 0 0), AV.val (Value.slice none 0 0), AV.val (Value.slice none 0 0), AV.val (Value.slice none 0 0)], iI ((rzF b (pr2 b 10 (0 : Int)) (rzF b (pr2 b 8 (0 : Int)) (rzF b (pr2 b 6 (0 : Int)) a2 e2).1 (rzF b (pr2 b 6 (0 : Int)) a2 e2).2).1 (rzF b (pr2 b 8 (0 : Int)) (rzF b (pr2 b 6 (0 : Int)) a2 e2).1 (rzF b (pr2 b 6 (0 : Int)) a2 e2).2).2).2)], [], 99,
   (decide ((↑(List.length b) : Int) > (1472 : Int)) = false) ::
   (decide ((↑(List.length b) : Int) < (12 : Int)) = false) ::
   ((0 : Int) ≤ (0 : Int)) ::
   (List.length b ≤ 1000000) ::
   (2 ≤ List.length b) ::
   ((0 : Int) = (0 : Int)) ::
   ((0 : Int) ≤ (2 : Int)) ::
   (List.length b ≤ 1000000) ::
   (4 ≤ List.length b) ::
   ((0 : Int) = (0 : Int)) ::
   ((0 : Int) ≤ (4 : Int)) ::
   (List.length b ≤ 1000000) ::
   (6 ≤ List.length b) ::
   ((0 : Int) = (0 : Int)) ::
   ((0 : Int) ≤ (6 : Int)) ::
   (List.length b ≤ 1000000) ::
   (8 ≤ List.length b) ::
   ((0 : Int) = (0 : Int)) ::
   ((0 : Int) ≤ (8 : Int)) ::
   (List.length b ≤ 1000000) ::
   (10 ≤ List.length b) ::
   ((0 : Int) = (0 : Int)) ::
   ((0 : Int) ≤ (10 : Int)) ::
   (List.length b ≤ 1000000) ::
   (12 ≤ List.length b) ::
   ((0 : Int) = (0 : Int)) ::
   (decide (IntKind.wrap IntKind.i64 (IntKind.wrap IntKind.i64 (IntKind.wrap IntKind.i64 (IntKind.wrap IntKind.i64 ((0 : Int) + (↑(pr2 b 4 (0 : Int)) : Int)) + (↑(pr2 b 6 (0 : Int)) : Int)) + (↑(pr2 b 8 (0 : Int)) : Int)) + (↑(pr2 b 10 (0 : Int)) : Int)) > (64 : Int)) = false) ::
   (AV.bytes b = AV.bytes b) ::
   (iI (↑(pr2 b 4 (0 : Int)) : Int) = iI (↑(pr2 b 4 (0 : Int)) : Int)) ::
   (iI (0 : Int) = iI (0 : Int)) ::
   (SameO (some (objOne 146 [AV.bytes b, iI (12 : Int), iI (0 : Int)])) (objOne 146 [AV.bytes b, iI (12 : Int), iI (0 : Int)])) ::
   (SameO (some (objOne 36 [iI (↑(pr2 b 0 (0 : Int)) : Int), iI (↑(pr2 b 2 (0 : Int)) : Int), AV.val (Value.slice none 0 0), AV.val (Value.slice none 0 0), AV.val (Value.slice none 0 0), AV.val (Value.slice none 0 0)])) (objOne 36 [iI (↑(pr2 b 0 (0 : Int)) : Int), iI (↑(pr2 b 2 (0 : Int)) : Int), AV.val (Value.slice none 0 0), AV.val (Value.slice none 0 0), AV.val (Value.slice none 0 0), AV.val (Value.slice none 0 0)])) ::
   (SameO (some (objOne 147 [iI (↑(pr2 b 4 (0 : Int)) : Int), iI (↑(pr2 b 6 (0 : Int)) : Int), iI (↑(pr2 b 8 (0 : Int)) : Int), iI (↑(pr2 b 10 (0 : Int)) : Int)])) (objOne 147 [iI (↑(pr2 b 4 (0 : Int)) : Int), iI (↑(pr2 b 6 (0 : Int)) : Int), iI (↑(pr2 b 8 (0 : Int)) : Int), iI (↑(pr2 b 10 (0 : Int)) : Int)])) ::
   (SameO (some (objOne 36 [iI (0 : Int), iI (0 : Int), AV.val (Value.slice none 0 0), AV.val (Value.slice none 0 0), AV.val (Value.slice none 0 0), AV.val (Value.slice none 0 0)])) (objOne 36 [iI (0 : Int), iI (0 : Int), AV.val (Value.slice none 0 0), AV.val (Value.slice none 0 0), AV.val (Value.slice none 0 0), AV.val (Value.slice none 0 0)])) ::
   (EvXL Try.prog 0 (loopAt Try.prog 57 19) (GoalX.st (LoopX.G (gzL b (↑(pr2 b 0 (0 : Int)) : Int) (↑(pr2 b 2 (0 : Int)) : Int) (pr2 b 4 (0 : Int)) (pr2 b 6 (0 : Int)) (pr2 b 8 (0 : Int)) (pr2 b 10 (0 : Int)) 12 (0 : Int) [12, 17, 821, 0] a2 e2 l)) 0) (LoopX.ex (gzL b (↑(pr2 b 0 (0 : Int)) : Int) (↑(pr2 b 2 (0 : Int)) : Int) (pr2 b 4 (0 : Int)) (pr2 b 6 (0 : Int)) (pr2 b 8 (0 : Int)) (pr2 b 10 (0 : Int)) 12 (0 : Int) [12, 17, 821, 0] a2 e2 l)) (GoalX.st (LoopX.E (gzL b (↑(pr2 b 0 (0 : Int)) : Int) (↑(pr2 b 2 (0 : Int)) : Int) (pr2 b 4 (0 : Int)) (pr2 b 6 (0 : Int)) (pr2 b 8 (0 : Int)) (pr2 b 10 (0 : Int)) 12 (0 : Int) [12, 17, 821, 0] a2 e2 l)) 0)) ::
   ((0 : Int) ≤ (↑a2 : Int)) ::
   (List.length b ≤ 1000000) ::
   (a2 ≤ List.length b) ::
   ((0 : Int) ≤ (↑(pr2 b 6 (0 : Int)) : Int) ∧ (↑(pr2 b 6 (0 : Int)) : Int) ≤ (1000 : Int)) ::
   ((0 : Int) ≤ (↑(rzF b (pr2 b 6 (0 : Int)) a2 e2).1 : Int)) ::
   (List.length b ≤ 1000000) ::
   ((rzF b (pr2 b 6 (0 : Int)) a2 e2).1 ≤ List.length b) ::
   ((0 : Int) ≤ (↑(pr2 b 8 (0 : Int)) : Int) ∧ (↑(pr2 b 8 (0 : Int)) : Int) ≤ (1000 : Int)) ::
   ((0 : Int) ≤ (↑(rzF b (pr2 b 8 (0 : Int)) (rzF b (pr2 b 6 (0 : Int)) a2 e2).1 (rzF b (pr2 b 6 (0 : Int)) a2 e2).2).1 : Int)) ::
   (List.length b ≤ 1000000) ::
   ((rzF b (pr2 b 8 (0 : Int)) (rzF b (pr2 b 6 (0 : Int)) a2 e2).1 (rzF b (pr2 b 6 (0 : Int)) a2 e2).2).1 ≤ List.length b) ::
   ((0 : Int) ≤ (↑(pr2 b 10 (0 : Int)) : Int) ∧ (↑(pr2 b 10 (0 : Int)) : Int) ≤ (1000 : Int)) ::
   (decide ((↑(rzF b (pr2 b 10 (0 : Int)) (rzF b (pr2 b 8 (0 : Int)) (rzF b (pr2 b 6 (0 : Int)) a2 e2).1 (rzF b (pr2 b 6 (0 : Int)) a2 e2).2).1 (rzF b (pr2 b 8 (0 : Int)) (rzF b (pr2 b 6 (0 : Int)) a2 e2).1 (rzF b (pr2 b 6 (0 : Int)) a2 e2).2).2).1 : Int) < (↑(List.length b) : Int)) = false) ::
   (((rzF b (pr2 b 10 (0 : Int)) (rzF b (pr2 b 8 (0 : Int)) (rzF b (pr2 b 6 (0 : Int)) a2 e2).1 (rzF b (pr2 b 6 (0 : Int)) a2 e2).2).1 (rzF b (pr2 b 8 (0 : Int)) (rzF b (pr2 b 6 (0 : Int)) a2 e2).1 (rzF b (pr2 b 6 (0 : Int)) a2 e2).2).2).2 != (0 : Int)) = true) :: []) := by kernel_rfl
end Go.Proofs.Ytmilcpejchjleaa

/- A message that is read (dns.Get): what is yielded. -/
namespace Go.Proofs.Ytmilcpejchjleaa
open Go.RowKit
set_option linter.unusedSimpArgs false
set_option linter.unusedVariables false

theorem AObj.Told.same {E : Env} {w : World} (B : List Nat) (x : AObj) : x.Told E w B x :=
  ⟨rfl, rfl, rfl, rfl, rfl, fun _ _ a h => ⟨a, h, fun _ r => r.more (more_frz E w B)⟩⟩
theorem AObj.Told.one {E : Env} {w : World} {B : List Nat} {t : TypeId} {l l' : List AV} (hn : l'.length = l.length) (h : ∀ (k : Nat) a a', l[k]? = some a → l'[k]? = some a' → ∀ v, Rep E w a v → Rep (E.frz B) w a' v) : (objOne t l).Told E w B (objOne t l') := by
  refine ⟨rfl, hn, rfl, rfl, rfl, fun i j a hc => ?_⟩
  have hc : ([l][i]?).bind (·[j]?) = some a := hc
  match i, hc with
  | 0, hc =>
    have hc : l[j]? = some a := hc
    have hj := (List.getElem?_eq_some_iff.1 hc).1
    rw [← hn] at hj
    exact ⟨l'[j], List.getElem?_eq_getElem hj, h j a _ hc (List.getElem?_eq_getElem hj)⟩
  | i + 1, hc => simp at hc

theorem gz_told (b : List UInt8) (id fl : Int) (c0 c1 c2 c3 a : Nat) (e : Int) (l : List DQ) {c : Code} {st : St} {ex : Ex} (h : EvX Try.prog 0 c st ex ((gzX b id fl c0 c1 c2 c3 a e l).st 0)) : EvX Try.prog 0 c st ex ((gzE b id fl c0 c1 c2 c3 a e l).st 0) := by
  refine EvX.frz [4] h (fun i hi => ?_) rfl rfl (fun E w hs t u hr => hr.more (more_frz E w [4])) fun i y hy0 => ?_
  · obtain rfl := List.mem_singleton.1 hi
    exact ⟨Nat.zero_le _, _, rfl⟩
  · have hy : hp [(0, rdr b a e), (1, gzM id fl (vQ l)), (2, gzN c0 c1 c2 c3), (3, gzR)] i = some y := (congrFun (treeH_ok _) i).symm.trans hy0
    clear hy0
    simp only [hp] at hy
    split at hy
    · rename_i h0; injection hy with hy; subst h0 hy
      exact ⟨by decide, _, rfl, fun E w _ => .same _ _⟩
    split at hy
    · rename_i h0; injection hy with hy; subst h0 hy
      refine ⟨by decide, gzM id fl (.sl 4 0 l.length none), rfl, fun E w hs => .one rfl fun k p p' h1 h2 v hr => ?_⟩
      match k with
      | 0 => simp at h1 h2; subst h1 h2; exact hr.more (more_frz E w [4])
      | 1 => simp at h1 h2; subst h1 h2; exact hr.more (more_frz E w [4])
      | 2 => simp at h1 h2; subst h1 h2; exact WQ.frzRows (id := 4) (n := l.length) hs rfl (List.mem_singleton.2 rfl) (.inr rfl) rfl rfl hr
      | 3 => simp at h1 h2; subst h1 h2; exact hr.more (more_frz E w [4])
      | 4 => simp at h1 h2; subst h1 h2; exact hr.more (more_frz E w [4])
      | 5 => simp at h1 h2; subst h1 h2; exact hr.more (more_frz E w [4])
      | k + 6 => simp at h1
    split at hy
    · rename_i h0; injection hy with hy; subst h0 hy
      exact ⟨by decide, _, rfl, fun E w _ => .same _ _⟩
    split at hy
    · rename_i h0; injection hy with hy; subst h0 hy
      exact ⟨by decide, _, rfl, fun E w _ => .same _ _⟩
    · cases hy
theorem gz_told0 (b : List UInt8) (id fl : Int) (c0 c1 c2 c3 a : Nat) (e : Int) {c : Code} {st : St} {ex : Ex} (h : EvX Try.prog 0 c st ex ((gzX0 b id fl c0 c1 c2 c3 a e).st 0)) : EvX Try.prog 0 c st ex ((gzE b id fl c0 c1 c2 c3 a e []).st 0) := by
  refine EvX.frz [] h (fun i hi => by cases hi) rfl rfl (fun E w hs t u hr => hr.more (more_frz E w [])) fun i y hy0 => ?_
  have hy : hp [(0, rdr b a e), (1, gzM id fl (vQ [])), (2, gzN c0 c1 c2 c3), (3, gzR)] i = some y := (congrFun (treeH_ok _) i).symm.trans hy0
  clear hy0
  simp only [hp] at hy
  split at hy
  · rename_i h0; injection hy with hy; subst h0 hy
    exact ⟨by decide, _, rfl, fun E w _ => .same _ _⟩
  split at hy
  · rename_i h0; injection hy with hy; subst h0 hy
    refine ⟨by decide, gzM id fl nilS, rfl, fun E w hs => .one rfl fun k p p' h1 h2 v hr => ?_⟩
    match k with
    | 0 => simp at h1 h2; subst h1 h2; exact hr.more (more_frz E w [])
    | 1 => simp at h1 h2; subst h1 h2; exact hr.more (more_frz E w [])
    | 2 =>
      simp at h1 h2; subst h1 h2
      rw [hr.val_inv]
      exact RQ.nil_rep (Nat.zero_le _)
    | 3 => simp at h1 h2; subst h1 h2; exact hr.more (more_frz E w [])
    | 4 => simp at h1 h2; subst h1 h2; exact hr.more (more_frz E w [])
    | 5 => simp at h1 h2; subst h1 h2; exact hr.more (more_frz E w [])
    | k + 6 => simp at h1
  split at hy
  · rename_i h0; injection hy with hy; subst h0 hy
    exact ⟨by decide, _, rfl, fun E w _ => .same _ _⟩
  split at hy
  · rename_i h0; injection hy with hy; subst h0 hy
    exact ⟨by decide, _, rfl, fun E w _ => .same _ _⟩
  · cases hy

theorem gz_loop1 (b : List UInt8) (id fl : Int) (c0 c1 c2 c3 : Nat) (hb : b.length ≤ 1000000) (hc : c0 ≤ 1000) : ∀ (k i a : Nat) (e : Int) (l : List DQ), i + k = c0 → l.length = i → a ≤ b.length →
    EvXL Try.prog 0 (loopAt Try.prog 57 19) ((gzG b id fl c0 c1 c2 c3 a e i l).st 0) (.exit 3) ((gzE b id fl c0 c1 c2 c3 (qzF b k a e).1 (qzF b k a e).2 (l ++ qzS b k a e)).st 0)
  | 0, i, a, e, l, hk, hl, ha => by
    obtain rfl : i = c0 := by omega
    have e1 : l ++ qzS b 0 a e = l := List.append_nil l
    rw [e1]
    refine EvXL.last (gz_told b id fl i c1 c2 c3 a e l (stepXS_ok kRd6_ok (gz_end b id fl i c1 c2 c3 a e l) ?_)) (by simp)
    repeat' (first | exact allNil | refine allCons ?_ ?_ | (with_reducible refine allRp _ ?_ ?_))
    all_goals first | (with_reducible rfl) | exact decide_eq_false (by omega) | exact same_rows RQ (fun _ => rfl) rfl | exact rfl
  | k + 1, i, a, e, l, hk, hl, ha => by
    have hs : EvX Try.prog 0 (loopAt Try.prog 57 19) ((gzG b id fl c0 c1 c2 c3 a e i l).st 0) .normal ((gzG b id fl c0 c1 c2 c3 (rzA3 b a e) (rzE3 b a e) (i + 1) (l ++ [qzQ b a e])).st 0) := stepXS_ok kRd6_ok (gz_step b id fl c0 c1 c2 c3 a e i l) (by
      repeat' (first | exact allNil | refine allCons ?_ ?_ | (with_reducible refine allRp _ ?_ ?_))
      all_goals first | (with_reducible rfl) | exact True.intro | exact decide_eq_true (by omega) | exact sI_succ i (by omega) | omega | exact rowsQ_len l | (rw [List.length_append]; rfl) | exact same_rows RQ (fun _ => rfl) (rowsQ_snoc l (qzQ b a e)) | exact rfl | (simp [SameO, gzM, objOne, AObj.ren, renL, AV.ren, renX, iI, nilS]; done))
    have ih := gz_loop1 b id fl c0 c1 c2 c3 hb hc k (i + 1) (rzA3 b a e) (rzE3 b a e) (l ++ [qzQ b a e]) (by omega) (by rw [List.length_append, hl]; rfl) (rzA3_le ha)
    have e3 : l ++ qzS b (k + 1) a e = l ++ [qzQ b a e] ++ qzS b k (rzA3 b a e) (rzE3 b a e) := by
      show l ++ (qzQ b a e :: qzS b k (rzA3 b a e) (rzE3 b a e)) = _
      simp
    rw [e3]
    exact EvXL.step hs ih
theorem gz_loop (b : List UInt8) (id fl : Int) (c0 c1 c2 c3 a : Nat) (e : Int) (hb : b.length ≤ 1000000) (hc : c0 ≤ 1000) (ha : a ≤ b.length) :
    EvXL Try.prog 0 (loopAt Try.prog 57 19) ((gzG0 b id fl c0 c1 c2 c3 a e).st 0) (.exit 3) ((gzE b id fl c0 c1 c2 c3 (qzF b c0 a e).1 (qzF b c0 a e).2 (qzS b c0 a e)).st 0) := by
  match c0, hc with
  | 0, hc =>
    refine EvXL.last (gz_told0 b id fl 0 c1 c2 c3 a e (stepXS_ok kRd6_ok (gz_end0 b id fl 0 c1 c2 c3 a e) ?_)) (by simp)
    repeat' (first | exact allNil | refine allCons ?_ ?_ | (with_reducible refine allRp _ ?_ ?_))
    all_goals first | (with_reducible rfl) | exact rfl
  | k + 1, hc =>
    have h0 : EvX Try.prog 0 (loopAt Try.prog 57 19) ((gzG0 b id fl (k + 1) c1 c2 c3 a e).st 0) .normal ((gzGr b id fl (k + 1) c1 c2 c3 (rzA3 b a e) (rzE3 b a e) 1 [qzQ b a e]).st 0) := stepXS_ok kRd6_ok (gz_step0 b id fl (k + 1) c1 c2 c3 a e) (by
      repeat' (first | exact allNil | refine allCons ?_ ?_ | (with_reducible refine allRp _ ?_ ?_))
      all_goals first | (with_reducible rfl) | exact True.intro | exact decide_eq_true (by omega) | omega | exact rfl)
    have h1 : EvX Try.prog 0 (loopAt Try.prog 57 19) ((gzG0 b id fl (k + 1) c1 c2 c3 a e).st 0) .normal ((gzG b id fl (k + 1) c1 c2 c3 (rzA3 b a e) (rzE3 b a e) 1 [qzQ b a e]).st 0) :=
      EvX.flat h0 rfl rfl rfl ⟨rfl, AObj.Eqv.refl _, rfl, AObj.Eqv.refl _, rfl, AObj.Eqv.refl _, rfl, AObj.Eqv.refl _, rfl, objFlat_eqv _ _ _, True.intro⟩
    have ih := gz_loop1 b id fl (k + 1) c1 c2 c3 hb hc k 1 (rzA3 b a e) (rzE3 b a e) [qzQ b a e] (by omega) rfl (rzA3_le ha)
    exact EvXL.step h1 ih

/-- how many questions and records a message tells of -/
def mgC (b : List UInt8) (k : Nat) : Nat := pr2 b (4 + 2 * k) 0
def mgQ (b : List UInt8) : Nat × Int := qzF b (mgC b 0) 12 0
def mg1 (b : List UInt8) : Nat × Int := rzF b (mgC b 1) (mgQ b).1 (mgQ b).2
def mg2 (b : List UInt8) : Nat × Int := rzF b (mgC b 2) (mg1 b).1 (mg1 b).2
def mg3 (b : List UInt8) : Nat × Int := rzF b (mgC b 3) (mg2 b).1 (mg2 b).2
/-- what is wrong with a message's bytes -/
def mgE (b : List UInt8) : Int := if 1472 < b.length then 2 else if b.length < 12 then 3 else if 64 < mgC b 0 + mgC b 1 + mgC b 2 + mgC b 3 then 2 else if (mg3 b).2 = 0 then (if (mg3 b).1 < b.length then 4 else 0) else (mg3 b).2
/-- the message -/
def mgQs (b : List UInt8) : List DQ := qzS b (mgC b 0) 12 0
def mgR1 (b : List UInt8) : List DR := rzV b (mgC b 1) (mgQ b).1 (mgQ b).2
def mgR2 (b : List UInt8) : List DR := rzV b (mgC b 2) (mg1 b).1 (mg1 b).2
def mgR3 (b : List UInt8) : List DR := rzV b (mgC b 3) (mg2 b).1 (mg2 b).2
def mgA (b : List UInt8) : AV := if mgE b = 0 then msgA (pr2 b 0 0 : Nat) (pr2 b 2 0 : Nat) (mgQs b) (mgR1 b) (mgR2 b) (mgR3 b) else .agg [iI 0, iI 0, nilS, nilS, nilS, nilS]

theorem qzF_le (b : List UInt8) : ∀ (k a : Nat) (e : Int), a ≤ b.length → (qzF b k a e).1 ≤ b.length
  | 0, a, e, h => h
  | k + 1, a, e, h => qzF_le b k _ _ (rzA3_le h)
theorem rzF_le (b : List UInt8) : ∀ (k a : Nat) (e : Int), a ≤ b.length → (rzF b k a e).1 ≤ b.length
  | 0, a, e, h => h
  | k + 1, a, e, h => by
    unfold rzF
    split
    · exact rzF_le b k _ _ (rzA_le h)
    · exact rzA_le h

theorem mg_call (b : List UInt8) (hb : b.length ≤ 100000) : ACall Try.prog 57 [.bytes b] [] 0 (.tup [mgA b, iI (mgE b)]) [] 4000 := by
  unfold mgA
  by_cases h1 : 1472 < b.length
  · have e : mgE b = 2 := if_pos h1
    rw [e, if_neg (by decide)]
    exact (outXS_ok kRd7_ok (mg_big b) (by
      repeat' (first | exact allNil | refine allCons ?_ ?_ | (with_reducible refine allRp _ ?_ ?_))
      all_goals exact decide_eq_true (by omega))).upTo (by decide)
  by_cases h2 : b.length < 12
  · have e : mgE b = 3 := by unfold mgE; rw [if_neg h1, if_pos h2]
    rw [e, if_neg (by decide)]
    exact (outXS_ok kRd7_ok (mg_short b) (by
      repeat' (first | exact allNil | refine allCons ?_ ?_ | (with_reducible refine allRp _ ?_ ?_))
      all_goals first | exact decide_eq_true (by omega) | exact decide_eq_false (by omega))).upTo (by decide)
  have p0 := pr2_lt b 4 0
  have p1 := pr2_lt b 6 0
  have p2 := pr2_lt b 8 0
  have p3 := pr2_lt b 10 0
  have c0 : mgC b 0 = pr2 b 4 0 := rfl
  have c1 : mgC b 1 = pr2 b 6 0 := rfl
  have c2 : mgC b 2 = pr2 b 8 0 := rfl
  have c3 : mgC b 3 = pr2 b 10 0 := rfl
  have hw : IntKind.wrap IntKind.i64 (IntKind.wrap IntKind.i64 (IntKind.wrap IntKind.i64 (IntKind.wrap IntKind.i64 ((0 : Int) + (↑(pr2 b 4 (0 : Int)) : Int)) + (↑(pr2 b 6 (0 : Int)) : Int)) + (↑(pr2 b 8 (0 : Int)) : Int)) + (↑(pr2 b 10 (0 : Int)) : Int)) = ((mgC b 0 + mgC b 1 + mgC b 2 + mgC b 3 : Nat) : Int) := by
    rw [w64 (0 + (pr2 b 4 0 : Int)) (by omega), w64 (0 + (pr2 b 4 0 : Int) + (pr2 b 6 0 : Int)) (by omega), w64 (0 + (pr2 b 4 0 : Int) + (pr2 b 6 0 : Int) + (pr2 b 8 0 : Int)) (by omega), w64 _ (by omega), c0, c1, c2, c3]
    omega
  by_cases h3 : 64 < mgC b 0 + mgC b 1 + mgC b 2 + mgC b 3
  · have e : mgE b = 2 := by unfold mgE; rw [if_neg h1, if_neg h2, if_pos h3]
    rw [e, if_neg (by decide)]
    exact (outXS_ok kRd7_ok (mg_many b) (by
      rw [hw]
      repeat' (first | exact allNil | refine allCons ?_ ?_ | (with_reducible refine allRp _ ?_ ?_))
      all_goals first | (with_reducible rfl) | exact decide_eq_true (by omega) | exact decide_eq_false (by omega) | omega)).upTo (by decide)
  have lo := gz_loop b (pr2 b 0 0 : Nat) (pr2 b 2 0 : Nat) (pr2 b 4 0) (pr2 b 6 0) (pr2 b 8 0) (pr2 b 10 0) 12 0 (by omega) (by omega) (by omega)
  have lq : (mgQ b).1 ≤ b.length := qzF_le b _ _ _ (by omega)
  have l1 : (mg1 b).1 ≤ b.length := rzF_le b _ _ _ lq
  have l2 : (mg2 b).1 ≤ b.length := rzF_le b _ _ _ l1
  have l3 : (mg3 b).1 ≤ b.length := rzF_le b _ _ _ l2
  have fQ : qzF b (pr2 b 4 0) 12 0 = mgQ b := rfl
  have f1 : rzF b (pr2 b 6 0) (mgQ b).1 (mgQ b).2 = mg1 b := rfl
  have f2 : rzF b (pr2 b 8 0) (mg1 b).1 (mg1 b).2 = mg2 b := rfl
  have f3 : rzF b (pr2 b 10 0) (mg2 b).1 (mg2 b).2 = mg3 b := rfl
  rw [fQ] at lo
  have e0 : mgE b = if (mg3 b).2 = 0 then (if (mg3 b).1 < b.length then 4 else 0) else (mg3 b).2 := by unfold mgE; rw [if_neg h1, if_neg h2, if_neg h3]
  by_cases h4 : (mg3 b).2 = 0
  · by_cases h5 : (mg3 b).1 < b.length
    · have e : mgE b = 4 := by rw [e0, if_pos h4, if_pos h5]
      rw [e, if_neg (by decide)]
      exact (outXS_ok kRd7_ok (mg_f1 b (mgQ b).1 (mgQ b).2 (mgQs b)) (by
        simp only [Int.toNat_natCast, hw, f1, f2, f3]
        repeat' (first | exact allNil | refine allCons ?_ ?_ | (with_reducible refine allRp _ ?_ ?_))
        all_goals first | (with_reducible rfl) | exact True.intro | exact decide_eq_true (by omega) | exact decide_eq_false (by omega) | omega | exact lo | exact beq_iff_eq.2 h4 | exact rfl)).upTo (by decide)
    · have e : mgE b = 0 := by rw [e0, if_pos h4, if_neg h5]
      rw [e, if_pos rfl]
      have h := outXS_ok kRd7_ok (mg_ok b (mgQ b).1 (mgQ b).2 (mgQs b)) (by
        simp only [Int.toNat_natCast, hw, f1, f2, f3]
        repeat' (first | exact allNil | refine allCons ?_ ?_ | (with_reducible refine allRp _ ?_ ?_))
        all_goals first | (with_reducible rfl) | exact True.intro | exact decide_eq_true (by omega) | exact decide_eq_false (by omega) | omega | exact lo | exact bne_eq_false_iff_eq.2 h4 | exact rfl)
      exact h.upTo (by decide)
  · have e : mgE b = (mg3 b).2 := by rw [e0, if_neg h4]
    rw [e, if_neg h4]
    by_cases h5 : (mg3 b).1 < b.length
    · have h := outXS_ok kRd7_ok (mg_f2 b (mgQ b).1 (mgQ b).2 (mgQs b)) (by
        simp only [Int.toNat_natCast, hw, f1, f2, f3]
        repeat' (first | exact allNil | refine allCons ?_ ?_ | (with_reducible refine allRp _ ?_ ?_))
        all_goals first | (with_reducible rfl) | exact True.intro | exact decide_eq_true (by omega) | exact decide_eq_false (by omega) | omega | exact lo | exact bne_iff_ne.2 h4 | exact beq_eq_false_iff_ne.2 h4 | exact rfl)
      simp only [Int.toNat_natCast, f1, f2, f3] at h
      exact h.upTo (by decide)
    · have h := outXS_ok kRd7_ok (mg_f3 b (mgQ b).1 (mgQ b).2 (mgQs b)) (by
        simp only [Int.toNat_natCast, hw, f1, f2, f3]
        repeat' (first | exact allNil | refine allCons ?_ ?_ | (with_reducible refine allRp _ ?_ ?_))
        all_goals first | (with_reducible rfl) | exact True.intro | exact decide_eq_true (by omega) | exact decide_eq_false (by omega) | omega | exact lo | exact bne_iff_ne.2 h4 | exact rfl)
      simp only [Int.toNat_natCast, f1, f2, f3] at h
      exact h.upTo (by decide)
end Go.Proofs.Ytmilcpejchjleaa

/- A message that was written is read; what is read may be written. Plainly. -/
namespace Go.Proofs.Ytmilcpejchjleaa
open Go.RowKit
set_option linter.unusedSimpArgs false
set_option linter.unusedVariables false

/-! ### what is read where -/
section
variable {b p x q : List UInt8} {a n : Nat}
theorem rd_at (h : b = p ++ (x ++ q)) (ha : a = p.length) (hn : n = x.length) : rdB b a 0 n = x ∧ rdA b a 0 n = a + n ∧ rdE b a 0 n = 0 := by
  subst h ha hn
  have hc : p.length + x.length ≤ (p ++ (x ++ q)).length := by simp
  unfold rdB rdA rdE
  rw [if_pos ⟨rfl, hc⟩, if_pos ⟨rfl, hc⟩, if_pos rfl, if_pos hc]
  refine ⟨?_, rfl, rfl⟩
  rw [List.drop_left, List.take_left]
theorem pr_at {z : Int} (h : b = p ++ (be2 z ++ q)) (ha : a = p.length) (hz : pairB z = true) : ((pr2 b a 0 : Nat) : Int) = z ∧ rdA b a 0 2 = a + 2 ∧ rdE b a 0 2 = 0 := by
  obtain ⟨h1, h2, h3⟩ := rd_at h ha (n := 2) rfl
  refine ⟨?_, h2, h3⟩
  unfold pairB at hz
  simp only [Bool.and_eq_true, decide_eq_true_eq] at hz
  unfold pr2
  rw [h1]
  show (((UInt8.ofNat (z.toNat / 256)).toNat * 256 + (UInt8.ofNat z.toNat).toNat : Nat) : Int) = z
  simp only [UInt8.toNat_ofNat']
  omega
theorem r4_at {z : Int} (h : b = p ++ (be4 z ++ q)) (ha : a = p.length) (hz : 0 ≤ z ∧ z ≤ 4294967295) : rd4 b a 0 = z ∧ rdA b a 0 4 = a + 4 ∧ rdE b a 0 4 = 0 := by
  obtain ⟨h1, h2, h3⟩ := rd_at h ha (n := 4) rfl
  refine ⟨?_, h2, h3⟩
  unfold rd4
  rw [h1]
  show (((((UInt8.ofNat (z.toNat / 16777216)).toNat * 256 + (UInt8.ofNat (z.toNat / 65536)).toNat) * 256 + (UInt8.ofNat (z.toNat / 256)).toNat) * 256 + (UInt8.ofNat z.toNat).toNat : Nat) : Int) = z
  simp only [UInt8.toNat_ofNat']
  omega
theorem nm_at {ls : List (List UInt8)} (h : b = p ++ (encL ls ++ 0 :: q)) (ha : a = p.length) (hg : goodN ls = true) : nmL b a 0 = ls ∧ nmA b a 0 = a + (encL ls).length + 1 ∧ nmE b a 0 = 0 := by
  subst h ha
  have hw := getW_encN p q ls hg
  have h1 : getL (p ++ (encL ls ++ 0 :: q)) (p.length : Int) = ls := congrArg (·.1) hw
  have h2 : getN (p ++ (encL ls ++ 0 :: q)) (p.length : Int) = ((p.length + (encL ls).length + 1 : Nat) : Int) := congrArg (·.2.1) hw
  have h3 : getE (p ++ (encL ls ++ 0 :: q)) (p.length : Int) = 0 := congrArg (·.2.2) hw
  refine ⟨(if_pos rfl).trans h1, ?_, (if_pos rfl).trans h3⟩
  unfold nmA
  rw [if_pos ⟨rfl, h3⟩, h2]
  rfl
end

theorem qz_at {b p q : List UInt8} {a : Nat} {x : DQ} (h : b = p ++ (encQ x ++ q)) (ha : a = p.length) (hx : qOk x = true) : qzQ b a 0 = x ∧ rzA3 b a 0 = a + (encQ x).length ∧ rzE3 b a 0 = 0 := by
  unfold qOk at hx
  simp only [Bool.and_eq_true] at hx
  obtain ⟨⟨h1, h2⟩, h3⟩ := hx
  obtain ⟨n1, n2, n3⟩ := nm_at (b := b) (p := p) (q := be2 x.ty ++ (be2 x.cl ++ q)) (ls := x.name) (by rw [h]; simp [encQ]) ha h3
  have eA1 : rzA1 b a 0 = a + (encL x.name).length + 1 := n2
  have eE1 : rzE1 b a 0 = 0 := n3
  obtain ⟨t1, t2, t3⟩ := pr_at (b := b) (a := rzA1 b a 0) (p := p ++ (encL x.name ++ [0])) (q := be2 x.cl ++ q) (z := x.ty) (by rw [h]; simp [encQ]) (by rw [eA1, ha]; simp; omega) h1
  have eA2 : rzA2 b a 0 = a + (encL x.name).length + 1 + 2 := by unfold rzA2; rw [eE1, t2, eA1]
  have eE2 : rzE2 b a 0 = 0 := by unfold rzE2; rw [eE1, t3]
  obtain ⟨c1, c2, c3⟩ := pr_at (b := b) (a := rzA2 b a 0) (p := p ++ (encL x.name ++ [0] ++ be2 x.ty)) (q := q) (z := x.cl) (by rw [h]; simp [encQ]) (by rw [eA2, ha]; simp [be2_len]; omega) h2
  refine ⟨?_, ?_, ?_⟩
  · unfold qzQ rzTy
    rw [n1, eE1, t1, eE2, c1]
  · unfold rzA3
    rw [eE2, c2, eA2]
    simp [encQ, be2_len]; omega
  · unfold rzE3
    rw [eE2, c3]

/-! ### data with names in it -/
def encNs (ls : List (List (List UInt8))) : List UInt8 := ls.flatMap fun l => encL l ++ [0]
/-- a record's data is written out -/
def canD (t : Int) (d : List UInt8) : Prop := shO t = true → ∃ h ls tl, d = h ++ (encNs ls ++ tl) ∧ h.length = shH t ∧ ls.length = shN t ∧ (∀ l ∈ ls, goodN l = true) ∧ tl.length = shT t
theorem wrN_at {b : List UInt8} : ∀ (ls : List (List (List UInt8))) (p q acc : List UInt8) (a : Nat), b = p ++ (encNs ls ++ q) → a = p.length → (∀ l ∈ ls, goodN l = true) → wrN b ls.length a 0 acc = (a + (encNs ls).length, 0, acc ++ encNs ls)
  | [], p, q, acc, a, h, ha, hg => by simp [wrN, encNs]
  | l :: r, p, q, acc, a, h, ha, hg => by
    have eN : encNs (l :: r) = encL l ++ [0] ++ encNs r := by simp [encNs]
    obtain ⟨n1, n2, n3⟩ := nm_at (b := b) (p := p) (q := encNs r ++ q) (ls := l) (by rw [h, eN]; simp) ha (hg l (List.mem_cons_self ..))
    have ih := wrN_at (b := b) r (p ++ (encL l ++ [0])) q (acc ++ encL l ++ [0]) (a + (encL l).length + 1) (by rw [h, eN]; simp) (by rw [ha]; simp; omega) fun l hl => hg l (List.mem_cons_of_mem _ hl)
    show wrN b r.length (nmA b a 0) (nmE b a 0) (if nmE b a 0 = 0 then acc ++ encL (nmL b a 0) ++ [0] else acc) = _
    rw [n1, n2, n3, if_pos rfl, ih, eN]
    simp; omega

theorem dt_at {b p q d : List UInt8} {a : Nat} {t : Int} (h : b = p ++ (d ++ q)) (ha : a = p.length) (hc : canD t d) : dtB b a 0 t d.length = d ∧ rdA b a 0 d.length = a + d.length ∧ dtE b a 0 t d.length = 0 := by
  obtain ⟨r1, r2, r3⟩ := rd_at h ha (n := d.length) rfl
  cases ho : shO t with
  | false =>
    have e : dtO b a 0 t d.length = false := by unfold dtO; rw [ho]; rfl
    unfold dtB dtE
    rw [e, if_neg (by decide), if_neg (by decide)]
    exact ⟨r1, r2, r3⟩
  | true =>
    have e : dtO b a 0 t d.length = true := by unfold dtO; rw [ho, decide_eq_true r3]; rfl
    obtain ⟨hd, ls, tl, e1, e2, e3, e4, e5⟩ := hc ho
    obtain ⟨h1, h2, h3⟩ := rd_at (b := b) (p := p) (x := hd) (q := encNs ls ++ (tl ++ q)) (n := shH t) (by rw [h, e1]; simp) ha e2.symm
    have hX : wrX b a (shH t) (shN t) = (a + shH t + (encNs ls).length, 0, hd ++ encNs ls) := by
      unfold wrX
      rw [h1, h2, h3, ← e3]
      exact wrN_at ls (p ++ hd) (tl ++ q) hd _ (by rw [h, e1]; simp) (by rw [ha, ← e2]; simp) e4
    obtain ⟨k1, k2, k3⟩ := rd_at (b := b) (a := a + shH t + (encNs ls).length) (p := p ++ (hd ++ encNs ls)) (x := tl) (q := q) (n := shT t) (by rw [h, e1]; simp) (by rw [ha, ← e2]; simp; omega) e5.symm
    have hl : d.length = shH t + (encNs ls).length + shT t := by rw [e1, ← e2, ← e5]; simp; omega
    have hk : wrOk b a (shH t) (shN t) (shT t) (rdA b a 0 d.length) = true := by
      unfold wrOk
      rw [hX]
      simp only []
      rw [k2, k3, r2, decide_eq_true rfl, decide_eq_true (by omega)]
      rfl
    unfold dtB dtE wrB wrEr
    rw [e, if_pos rfl, if_pos rfl, if_pos hk, if_pos hk, hX]
    refine ⟨?_, r2, rfl⟩
    simp only []
    rw [k1, e1]
    simp

/-- a record that may be written and is read the same -/
def rGd (r : DR) : Prop := rOk r = true ∧ (0 ≤ r.ttl ∧ r.ttl ≤ 4294967295) ∧ canD r.ty r.data
theorem rz_at {b p q : List UInt8} {a : Nat} {x : DR} (h : b = p ++ (encR x ++ q)) (ha : a = p.length) (hx : rGd x) : rzR b a 0 = x ∧ rzA b a 0 = a + (encR x).length ∧ rzE b a 0 = 0 := by
  obtain ⟨hx, ht, hc⟩ := hx
  unfold rOk at hx
  simp only [Bool.and_eq_true, decide_eq_true_eq] at hx
  obtain ⟨⟨⟨h1, h2⟩, h3⟩, h4⟩ := hx
  have hn : pairB (x.data.length : Int) = true := by
    unfold pairB
    rw [decide_eq_true (by omega), decide_eq_true (by omega)]; rfl
  obtain ⟨n1, n2, n3⟩ := nm_at (b := b) (p := p) (q := be2 x.ty ++ (be2 x.cl ++ (be4 x.ttl ++ (be2 (x.data.length : Int) ++ (x.data ++ q))))) (ls := x.name) (by rw [h]; simp [encR]) ha h3
  have eA1 : rzA1 b a 0 = a + (encL x.name).length + 1 := n2
  have eE1 : rzE1 b a 0 = 0 := n3
  obtain ⟨t1, t2, t3⟩ := pr_at (b := b) (a := rzA1 b a 0) (p := p ++ (encL x.name ++ [0])) (q := be2 x.cl ++ (be4 x.ttl ++ (be2 (x.data.length : Int) ++ (x.data ++ q)))) (z := x.ty) (by rw [h]; simp [encR]) (by rw [eA1, ha]; simp; omega) h1
  have eA2 : rzA2 b a 0 = a + (encL x.name).length + 1 + 2 := by unfold rzA2; rw [eE1, t2, eA1]
  have eE2 : rzE2 b a 0 = 0 := by unfold rzE2; rw [eE1, t3]
  obtain ⟨c1, c2, c3⟩ := pr_at (b := b) (a := rzA2 b a 0) (p := p ++ (encL x.name ++ [0] ++ be2 x.ty)) (q := be4 x.ttl ++ (be2 (x.data.length : Int) ++ (x.data ++ q))) (z := x.cl) (by rw [h]; simp [encR]) (by rw [eA2, ha]; simp [be2_len]; omega) h2
  have eA3 : rzA3 b a 0 = a + (encL x.name).length + 1 + 2 + 2 := by unfold rzA3; rw [eE2, c2, eA2]
  have eE3 : rzE3 b a 0 = 0 := by unfold rzE3; rw [eE2, c3]
  obtain ⟨l1, l2, l3⟩ := r4_at (b := b) (a := rzA3 b a 0) (p := p ++ (encL x.name ++ [0] ++ be2 x.ty ++ be2 x.cl)) (q := be2 (x.data.length : Int) ++ (x.data ++ q)) (z := x.ttl) (by rw [h]; simp [encR]) (by rw [eA3, ha]; simp [be2_len]; omega) ht
  have eA4 : rzA4 b a 0 = a + (encL x.name).length + 1 + 2 + 2 + 4 := by unfold rzA4; rw [eE3, l2, eA3]
  have eE4 : rzE4 b a 0 = 0 := by unfold rzE4; rw [eE3, l3]
  obtain ⟨m1, m2, m3⟩ := pr_at (b := b) (a := rzA4 b a 0) (p := p ++ (encL x.name ++ [0] ++ be2 x.ty ++ be2 x.cl ++ be4 x.ttl)) (q := x.data ++ q) (z := (x.data.length : Int)) (by rw [h]; simp [encR]) (by rw [eA4, ha]; simp [be2_len, be4_len]; omega) hn
  have eA5 : rzA5 b a 0 = a + (encL x.name).length + 1 + 2 + 2 + 4 + 2 := by unfold rzA5; rw [eE4, m2, eA4]
  have eE5 : rzE5 b a 0 = 0 := by unfold rzE5; rw [eE4, m3]
  have eN : rzN b a 0 = x.data.length := by unfold rzN; rw [eE4]; omega
  have eT : rzTy b a 0 = x.ty := by unfold rzTy; rw [eE1, t1]
  obtain ⟨d1, d2, d3⟩ := dt_at (b := b) (a := rzA5 b a 0) (p := p ++ (encL x.name ++ [0] ++ be2 x.ty ++ be2 x.cl ++ be4 x.ttl ++ be2 (x.data.length : Int))) (d := x.data) (q := q) (t := x.ty) (by rw [h]; simp [encR]) (by rw [eA5, ha]; simp [be2_len, be4_len]; omega) hc
  refine ⟨?_, ?_, ?_⟩
  · unfold rzR
    rw [n1, eT, eE2, c1, eE3, l1, eE5, eN, d1]
  · unfold rzA
    rw [eE5, eN, d2, eA5]
    simp [encR, be2_len, be4_len]; omega
  · unfold rzE
    rw [eE5, eN, eT, d3]

theorem qs_at {b : List UInt8} : ∀ (l : List DQ) (p q : List UInt8) (a : Nat), b = p ++ (encQs l ++ q) → a = p.length → (∀ x ∈ l, qOk x = true) → qzS b l.length a 0 = l ∧ qzF b l.length a 0 = (a + (encQs l).length, 0)
  | [], p, q, a, h, ha, hg => by simp [qzS, qzF, encQs]
  | x :: r, p, q, a, h, ha, hg => by
    have eN : encQs (x :: r) = encQ x ++ encQs r := by simp [encQs]
    obtain ⟨n1, n2, n3⟩ := qz_at (b := b) (p := p) (q := encQs r ++ q) (x := x) (by rw [h, eN]; simp) ha (hg x (List.mem_cons_self ..))
    obtain ⟨i1, i2⟩ := qs_at (b := b) r (p ++ encQ x) q (a + (encQ x).length) (by rw [h, eN]; simp) (by rw [ha]; simp) fun l hl => hg l (List.mem_cons_of_mem _ hl)
    show qzQ b a 0 :: qzS b r.length (rzA3 b a 0) (rzE3 b a 0) = _ ∧ qzF b r.length (rzA3 b a 0) (rzE3 b a 0) = _
    rw [n1, n2, n3, i1, i2, eN]
    exact ⟨rfl, by simp; omega⟩
theorem rs_at {b : List UInt8} : ∀ (l : List DR) (p q : List UInt8) (a : Nat), b = p ++ (encRs l ++ q) → a = p.length → (∀ x ∈ l, rGd x) → rzV b l.length a 0 = l ∧ rzF b l.length a 0 = (a + (encRs l).length, 0) := by
  have key : ∀ (l : List DR) (p q : List UInt8) (a : Nat), b = p ++ (encRs l ++ q) → a = p.length → (∀ x ∈ l, rGd x) → rzOk b l.length a 0 = true ∧ rzS b l.length a 0 = l ∧ rzF b l.length a 0 = (a + (encRs l).length, 0) := by
    intro l
    induction l with
    | nil => intro p q a h ha hg; simp [rzOk, rzS, rzF, encRs]
    | cons x r ih =>
      intro p q a h ha hg
      have eN : encRs (x :: r) = encR x ++ encRs r := by simp [encRs]
      obtain ⟨n1, n2, n3⟩ := rz_at (b := b) (p := p) (q := encRs r ++ q) (x := x) (by rw [h, eN]; simp) ha (hg x (List.mem_cons_self ..))
      obtain ⟨i0, i1, i2⟩ := ih (p ++ encR x) q (a + (encR x).length) (by rw [h, eN]; simp) (by rw [ha]; simp) fun l hl => hg l (List.mem_cons_of_mem _ hl)
      refine ⟨?_, ?_, ?_⟩
      · show (decide (rzE b a 0 = 0) && rzOk b r.length (rzA b a 0) (rzE b a 0)) = true
        rw [n3, n2, i0]; rfl
      · show rzR b a 0 :: rzS b r.length (rzA b a 0) (rzE b a 0) = _
        rw [n1, n2, n3, i1]
      · show (if rzE b a 0 = 0 then rzF b r.length (rzA b a 0) (rzE b a 0) else (rzA b a 0, rzE b a 0)) = _
        rw [if_pos n3, n2, n3, i2, eN]
        simp; omega
  intro l p q a h ha hg
  obtain ⟨h1, h2, h3⟩ := key l p q a h ha hg
  unfold rzV
  rw [h1, if_pos rfl]
  exact ⟨h2, h3⟩

/-- a message that may be written and is read the same -/
structure mGd (id fl : Int) (qs : List DQ) (a o m : List DR) : Prop where
  id : pairB id = true
  fl : pairB fl = true
  n : qs.length + a.length + o.length + m.length ≤ 64
  q : ∀ x ∈ qs, qOk x = true
  a : ∀ x ∈ a, rGd x
  o : ∀ x ∈ o, rGd x
  m : ∀ x ∈ m, rGd x

theorem pair_nat {n : Nat} (h : n ≤ 64) : pairB (n : Int) = true := by
  unfold pairB
  rw [decide_eq_true (by omega), decide_eq_true (by omega)]; rfl

theorem mg_at {id fl : Int} {qs : List DQ} {a o m : List DR} (h : mGd id fl qs a o m) (hl : (bytM id fl qs a o m).length ≤ 1472) : mgE (bytM id fl qs a o m) = 0 ∧ mgA (bytM id fl qs a o m) = msgA id fl qs a o m := by
  have hn := h.n
  obtain ⟨b, hb⟩ : ∃ b, b = bytM id fl qs a o m := ⟨_, rfl⟩
  have hB : b = be2 id ++ (be2 fl ++ (be2 (qs.length : Int) ++ (be2 (a.length : Int) ++ (be2 (o.length : Int) ++ (be2 (m.length : Int) ++ (encQs qs ++ (encRs a ++ (encRs o ++ encRs m)))))))) := by
    rw [hb]; simp [bytM, headM]
  have e0 := (pr_at (b := b) (a := 0) (p := []) (z := id) hB rfl h.id).1
  have e1 := (pr_at (b := b) (a := 2) (p := be2 id) (z := fl) hB rfl h.fl).1
  have e2 := (pr_at (b := b) (a := 4) (p := be2 id ++ be2 fl) (z := (qs.length : Int)) (q := be2 (a.length : Int) ++ (be2 (o.length : Int) ++ (be2 (m.length : Int) ++ (encQs qs ++ (encRs a ++ (encRs o ++ encRs m)))))) (by rw [hB]; simp) rfl (pair_nat (by omega))).1
  have e3 := (pr_at (b := b) (a := 6) (p := be2 id ++ be2 fl ++ be2 (qs.length : Int)) (z := (a.length : Int)) (q := be2 (o.length : Int) ++ (be2 (m.length : Int) ++ (encQs qs ++ (encRs a ++ (encRs o ++ encRs m))))) (by rw [hB]; simp) rfl (pair_nat (by omega))).1
  have e4 := (pr_at (b := b) (a := 8) (p := be2 id ++ be2 fl ++ be2 (qs.length : Int) ++ be2 (a.length : Int)) (z := (o.length : Int)) (q := be2 (m.length : Int) ++ (encQs qs ++ (encRs a ++ (encRs o ++ encRs m)))) (by rw [hB]; simp) rfl (pair_nat (by omega))).1
  have e5 := (pr_at (b := b) (a := 10) (p := be2 id ++ be2 fl ++ be2 (qs.length : Int) ++ be2 (a.length : Int) ++ be2 (o.length : Int)) (z := (m.length : Int)) (q := encQs qs ++ (encRs a ++ (encRs o ++ encRs m))) (by rw [hB]; simp) rfl (pair_nat (by omega))).1
  have c0 : mgC b 0 = qs.length := by show pr2 b 4 0 = _; omega
  have c1 : mgC b 1 = a.length := by show pr2 b 6 0 = _; omega
  have c2 : mgC b 2 = o.length := by show pr2 b 8 0 = _; omega
  have c3 : mgC b 3 = m.length := by show pr2 b 10 0 = _; omega
  let H := be2 id ++ be2 fl ++ be2 (qs.length : Int) ++ be2 (a.length : Int) ++ be2 (o.length : Int) ++ be2 (m.length : Int)
  have hH : H.length = 12 := rfl
  obtain ⟨q1, q2⟩ := qs_at (b := b) qs H (encRs a ++ (encRs o ++ encRs m)) 12 (by rw [hB]; simp [H]) hH.symm h.q
  obtain ⟨a1, a2⟩ := rs_at (b := b) a (H ++ encQs qs) (encRs o ++ encRs m) (12 + (encQs qs).length) (by rw [hB]; simp [H]) (by rw [List.length_append, hH]) h.a
  obtain ⟨o1, o2⟩ := rs_at (b := b) o (H ++ encQs qs ++ encRs a) (encRs m) (12 + (encQs qs).length + (encRs a).length) (by rw [hB]; simp [H]) (by rw [List.length_append, List.length_append, hH]) h.o
  obtain ⟨m1, m2⟩ := rs_at (b := b) m (H ++ encQs qs ++ encRs a ++ encRs o) [] (12 + (encQs qs).length + (encRs a).length + (encRs o).length) (by rw [hB]; simp [H]) (by rw [List.length_append, List.length_append, List.length_append, hH]) h.m
  have fQ : mgQ b = (12 + (encQs qs).length, 0) := by unfold mgQ; rw [c0, q2]
  have f1 : mg1 b = (12 + (encQs qs).length + (encRs a).length, 0) := by unfold mg1; rw [c1, fQ]; exact a2
  have f2 : mg2 b = (12 + (encQs qs).length + (encRs a).length + (encRs o).length, 0) := by unfold mg2; rw [c2, f1]; exact o2
  have f3 : mg3 b = (12 + (encQs qs).length + (encRs a).length + (encRs o).length + (encRs m).length, 0) := by unfold mg3; rw [c3, f2]; exact m2
  have hlen : b.length = 12 + (encQs qs).length + (encRs a).length + (encRs o).length + (encRs m).length := by
    rw [hB]; simp [be2_len]; omega
  rw [← hb] at hl ⊢
  have eE : mgE b = 0 := by
    unfold mgE
    rw [if_neg (by omega), if_neg (by omega), if_neg (by rw [c0, c1, c2, c3]; omega), f3, if_pos rfl, if_neg (by show ¬ _ < b.length; omega)]
  refine ⟨eE, ?_⟩
  unfold mgA mgQs mgR1 mgR2 mgR3
  rw [eE, if_pos rfl, e0, e1, c0, c1, c2, c3, fQ, f1, f2, q1, a1, o1, m1]

/-! ### what is read may be written -/
theorem rdE_zero' {b : List UInt8} {a : Nat} {e : Int} {n : Nat} (h : rdE b a e n = 0) : e = 0 := (rdE_zero h).1
theorem nmE_zero {b : List UInt8} {a : Nat} {e : Int} (h : nmE b a e = 0) : e = 0 := by
  unfold nmE at h
  split at h
  · assumption
  · exact h
theorem wrN_zero (b : List UInt8) : ∀ (k a : Nat) (e : Int) (acc : List UInt8), (wrN b k a e acc).2.1 = 0 → e = 0 ∧ ∃ ls : List (List (List UInt8)), ls.length = k ∧ (∀ l ∈ ls, goodN l = true) ∧ (wrN b k a e acc).2.2 = acc ++ encNs ls
  | 0, a, e, acc, h => ⟨h, [], rfl, (by simp), by simp [wrN, encNs]⟩
  | k + 1, a, e, acc, h => by
    have h : (wrN b k (nmA b a e) (nmE b a e) (if nmE b a e = 0 then acc ++ encL (nmL b a e) ++ [0] else acc)).2.1 = 0 := h
    obtain ⟨h1, ls, h2, h3, h4⟩ := wrN_zero b k _ _ _ h
    refine ⟨nmE_zero h1, nmL b a e :: ls, by rw [List.length_cons, h2], ?_, ?_⟩
    · intro l hl
      rcases List.mem_cons.1 hl with rfl | hl
      · exact nmL_good b a e
      · exact h3 l hl
    · show (wrN b k (nmA b a e) (nmE b a e) (if nmE b a e = 0 then acc ++ encL (nmL b a e) ++ [0] else acc)).2.2 = _
      rw [h4, if_pos h1]
      simp [encNs]
theorem pr2_pair (b : List UInt8) (a : Nat) (e : Int) : pairB (pr2 b a e : Nat) = true := by
  have := pr2_lt b a e
  unfold pairB
  rw [decide_eq_true (by omega), decide_eq_true (by omega)]; rfl
theorem encNs_len {ls : List (List (List UInt8))} (h : ∀ l ∈ ls, goodN l = true) : (encNs ls).length ≤ 255 * ls.length := by
  induction ls with
  | nil => simp [encNs]
  | cons l r ih =>
    have h1 := encL_good (h l (List.mem_cons_self ..))
    have h2 := ih fun x hx => h x (List.mem_cons_of_mem _ hx)
    have eN : encNs (l :: r) = encL l ++ [0] ++ encNs r := by simp [encNs]
    rw [eN]
    simp; omega
theorem rzR_good (b : List UInt8) (a : Nat) (e : Int) (h : rzE b a e = 0) : rGd (rzR b a e) := by
  have hN : rzN b a e < 65536 := pr2_lt _ _ _
  have hl : rzE b a e = 0 := h
  unfold rzE dtE at h
  have key : (rzR b a e).data.length ≤ 65535 ∧ canD (rzTy b a e) (rzR b a e).data := by
    show (dtB b (rzA5 b a e) (rzE5 b a e) (rzTy b a e) (rzN b a e)).length ≤ 65535 ∧ canD (rzTy b a e) (dtB b (rzA5 b a e) (rzE5 b a e) (rzTy b a e) (rzN b a e))
    unfold dtB
    cases ho : dtO b (rzA5 b a e) (rzE5 b a e) (rzTy b a e) (rzN b a e) with
    | false =>
      rw [if_neg (by decide), rdB_len]
      refine ⟨by omega, fun hs => ?_⟩
      rw [ho, if_neg (by decide)] at h
      unfold dtO at ho
      rw [hs, decide_eq_true h] at ho
      cases ho
    | true =>
      rw [if_pos rfl]
      rw [ho, if_pos rfl] at h
      unfold wrEr at h
      split at h
      · rename_i hk
        unfold wrB
        rw [if_pos hk]
        unfold wrOk at hk
        simp only [Bool.and_eq_true, decide_eq_true_eq] at hk
        have h0 := rdE_zero' hk.1
        obtain ⟨_, ls, k1, k2, k3⟩ := wrN_zero b _ _ _ _ h0
        have hX : (wrX b (rzA5 b a e) (shH (rzTy b a e)) (shN (rzTy b a e))).2.2 = _ := k3
        have hn := encNs_len k2
        have b2 : shN (rzTy b a e) ≤ 2 := by unfold shN; repeat' split
                                             all_goals omega
        have b1 : shH (rzTy b a e) ≤ 2 := by unfold shH; split <;> omega
        have b3 : shT (rzTy b a e) ≤ 20 := by unfold shT; split <;> omega
        rw [hX]
        refine ⟨?_, fun _ => ⟨rdB b (rzA5 b a e) 0 (shH (rzTy b a e)), ls, rdB b (wrX b (rzA5 b a e) (shH (rzTy b a e)) (shN (rzTy b a e))).1 (wrX b (rzA5 b a e) (shH (rzTy b a e)) (shN (rzTy b a e))).2.1 (shT (rzTy b a e)), ?_, rdB_len _ _ _ _, k1, k2, rdB_len _ _ _ _⟩⟩
        · rw [List.length_append, List.length_append, rdB_len, rdB_len]
          rw [k1] at hn
          omega
        · rw [List.append_assoc]
      · cases h
  refine ⟨?_, ?_, key.2⟩
  · unfold rOk
    have e1 : pairB (rzR b a e).ty = true := pr2_pair _ _ _
    have e2 : pairB (rzR b a e).cl = true := pr2_pair _ _ _
    have e3 : goodN (rzR b a e).name = true := nmL_good _ _ _
    rw [e1, e2, e3, decide_eq_true key.1]; rfl
  · show 0 ≤ rd4 b (rzA3 b a e) (rzE3 b a e) ∧ rd4 b (rzA3 b a e) (rzE3 b a e) ≤ 4294967295
    unfold rd4
    have x0 := ((rdB b (rzA3 b a e) (rzE3 b a e) 4).getD 0 0).toNat_lt
    have x1 := ((rdB b (rzA3 b a e) (rzE3 b a e) 4).getD 1 0).toNat_lt
    have x2 := ((rdB b (rzA3 b a e) (rzE3 b a e) 4).getD 2 0).toNat_lt
    have x3 := ((rdB b (rzA3 b a e) (rzE3 b a e) 4).getD 3 0).toNat_lt
    omega
theorem rzV_good (b : List UInt8) (k a : Nat) (e : Int) : ∀ x ∈ rzV b k a e, rGd x := by
  have key : ∀ (k a : Nat) (e : Int), rzOk b k a e = true → ∀ x ∈ rzS b k a e, rGd x := by
    intro k
    induction k with
    | zero => intro a e _ x hx; simp [rzS] at hx
    | succ k ih =>
      intro a e h x hx
      have h : (decide (rzE b a e = 0) && rzOk b k (rzA b a e) (rzE b a e)) = true := h
      simp only [Bool.and_eq_true, decide_eq_true_eq] at h
      have hx : x ∈ rzR b a e :: rzS b k (rzA b a e) (rzE b a e) := hx
      rcases List.mem_cons.1 hx with rfl | hx
      · exact rzR_good b a e h.1
      · exact ih _ _ h.2 x hx
  unfold rzV
  split
  · rename_i h; exact key k a e h
  · simp
theorem rzV_len (b : List UInt8) (k a : Nat) (e : Int) : (rzV b k a e).length ≤ k := by
  have key : ∀ (k a : Nat) (e : Int), (rzS b k a e).length = k := by
    intro k
    induction k with
    | zero => intro a e; rfl
    | succ k ih => intro a e; show (rzS b k _ _).length + 1 = _; rw [ih]
  unfold rzV
  split
  · rw [key]; exact Nat.le_refl _
  · exact Nat.zero_le _
theorem qzS_len (b : List UInt8) : ∀ (k a : Nat) (e : Int), (qzS b k a e).length = k
  | 0, a, e => rfl
  | k + 1, a, e => by show (qzS b k _ _).length + 1 = _; rw [qzS_len b k]
theorem qzS_good (b : List UInt8) : ∀ (k a : Nat) (e : Int), ∀ x ∈ qzS b k a e, qOk x = true
  | 0, a, e, x, hx => by simp [qzS] at hx
  | k + 1, a, e, x, hx => by
    have hx : x ∈ qzQ b a e :: qzS b k (rzA3 b a e) (rzE3 b a e) := hx
    rcases List.mem_cons.1 hx with rfl | hx
    · unfold qOk
      have e1 : pairB (qzQ b a e).ty = true := pr2_pair _ _ _
      have e2 : pairB (qzQ b a e).cl = true := pr2_pair _ _ _
      have e3 : goodN (qzQ b a e).name = true := nmL_good _ _ _
      rw [e1, e2, e3]; rfl
    · exact qzS_good b k _ _ x hx
theorem mg_good (b : List UInt8) (h : mgE b = 0) : mGd (pr2 b 0 0 : Nat) (pr2 b 2 0 : Nat) (mgQs b) (mgR1 b) (mgR2 b) (mgR3 b) := by
  unfold mgE at h
  split at h
  · cases h
  · split at h
    · cases h
    · split at h
      · cases h
      · rename_i hn
        have l0 := qzS_len b (mgC b 0) 12 0
        have l1 := rzV_len b (mgC b 1) (mgQ b).1 (mgQ b).2
        have l2 := rzV_len b (mgC b 2) (mg1 b).1 (mg1 b).2
        have l3 := rzV_len b (mgC b 3) (mg2 b).1 (mg2 b).2
        exact ⟨pr2_pair _ _ _, pr2_pair _ _ _, by unfold mgQs mgR1 mgR2 mgR3; omega, qzS_good b _ _ _, rzV_good b _ _ _, rzV_good b _ _ _, rzV_good b _ _ _⟩
end Go.Proofs.Ytmilcpejchjleaa
