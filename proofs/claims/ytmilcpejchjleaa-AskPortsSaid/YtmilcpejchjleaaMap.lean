/- Several texts in one: Ap0, ApRun, Ap, AqRun, Aq. -/
import Derived.Test.YtmilcpejchjleaaMcr
import Derived.Test.YtmilcpejchjleaaMez

/- The law AskPorts: words for questions that wait; the loops that look for their ports. -/
namespace Go.Proofs.Ytmilcpejchjleaa
open Go.RowKit

def wB (n : Int) : AV := .val (.int .u8 n)
/-- a question that waits: its number, the number it went out with, its port -/
def qrow (x : Nat × Int × Int) : List AV :=
  [iI x.1, iI 256, vQ [kq x.1], nilS, nilS, nilS, wB 2, wB (IntKind.wrap .u8 x.1), wB 0, wB 0, wB 0, wB 0, wB 10, wB 0, wB 0, wB (IntKind.wrap .u8 x.1), iI (IntKind.wrap .i64 (1000 + x.1)), iI x.2.1, iI x.2.2, iI 0]
def qrows (l : List (Nat × Int × Int)) : List (List AV) := l.map qrow
theorem qrows_len (l : List (Nat × Int × Int)) : (qrows l).length = l.length := List.length_map _
theorem qrows_get {l : List (Nat × Int × Int)} {i : Nat} {x : Nat × Int × Int} (h : l[i]? = some x) : (qrows l)[i]? = some (qrow x) := by
  unfold qrows; rw [List.getElem?_map, h]; rfl
theorem qrows_app (l k : List (Nat × Int × Int)) : qrows (l ++ k) = qrows l ++ qrows k := List.map_append
def intOf : AV → Int
  | .val (.int _ z) => z
  | _ => 0
def qal (l : List (List AV)) : List (Nat × Int × Int) := l.map fun r => ((intOf (r.getD 0 .any)).toNat, intOf (r.getD 17 .any), intOf (r.getD 18 .any))
theorem qal_qrows (l : List (Nat × Int × Int)) : qal (qrows l) = l := by
  unfold qal qrows
  rw [List.map_map]
  conv => rhs; rw [← List.map_id l]
  refine List.map_congr_left fun x hx => rfl
def wObj (l : List (Nat × Int × Int)) : AObj := ⟨125, 20, false, false, .flat (qrows l)⟩
def askO (n id c : Nat) : AObj := objOne 121 [iI 32, .sl id 0 n none, .ptr c 0 0]
def askZ (c : Nat) : AObj := objOne 121 [iI 32, nilS, .ptr c 0 0]
def c64 : AObj := objOne 109 [iI 64, nilS]
def intQ (o : Int) : AObj := objOne 3 [iI o]

def pxF : AV := .fn (.func 117) [.ptr 1 0 0]
def pxG (l : List (Nat × Int × Int)) (o i : Nat) : GoalX := { len := 19, opn := [(1, pxF), (0, .sl 0 0 l.length none), (7, sI l.length), (8, sI i)], oob := [(0, wObj l), (1, intQ o)], k := 0 }
def pxR (l : List (Nat × Int × Int)) (o i : Nat) : GoalX := { len := 19, opn := [(4, sI i)], oob := [(0, wObj l), (1, intQ o)], k := 0 }
def pxE (l : List (Nat × Int × Int)) (o : Nat) : GoalX := { len := 19, oob := [(0, wObj l), (1, intQ o)], k := 0 }
def pxLR (l : List (Nat × Int × Int)) (o i : Nat) : LoopX := { ids := [], G := pxG l o 0, ex := .ret, E := pxR l o i }
def pxLE (l : List (Nat × Int × Int)) (o : Nat) : LoopX := { ids := [], G := pxG l o 0, ex := .exit 0, E := pxE l o }
/-- where the first question with this port is -/
def fP (o : Nat) : List (Nat × Int × Int) → Nat → Int
  | [], _ => -1
  | x :: r, i => if x.2.2 = 20000 + (o : Int) then (i : Int) else fP o r (i + 1)
/-- the loop that looks for a port -/
def poG (l : List (Nat × Int × Int)) (o : Nat) : GoalX := { len := 23, tms := [(0, .ptr 0 0 0), (5, .ptr 3 0 0)], oob := [(0, askO l.length 1 2), (1, wObj l), (2, c64), (3, intQ o)], k := 1 }
def poE (l : List (Nat × Int × Int)) (o : Nat) : GoalX := { len := 23, opn := [(4, iI (20000 + o))], oob := [(0, askO l.length 1 2), (1, wObj l), (2, c64)], k := 0 }
def poL (l : List (Nat × Int × Int)) (o q id : Nat) : LoopX := { ids := [id], G := poG l o, ex := .ret, E := poE l q }
end Go.Proofs.Ytmilcpejchjleaa

/- The law AskPorts (runs of what it calls). No condition. -/
namespace Go.Proofs.Ytmilcpejchjleaa
open Go.RowKit

set_option maxRecDepth 100000 in
theorem ap_asks (n : Nat) : outXS kN2 [(35, { ob := [(1, 10)] })] Try.prog 35 [AV.val (Value.int IntKind.i64 (↑n : Int)), AV.val (Value.int IntKind.i64 (↑n : Int))] [] 0 [13, 15] [] =
   some (AV.agg [AV.val (Value.int IntKind.i64 (↑n : Int)), AV.val (Value.int IntKind.i64 (256 : Int)), AV.sl 15 0 1 none, AV.val (Value.slice none 0 0), AV.val (Value.slice none 0 0), AV.val (Value.slice none 0 0)], [(13, { t := 9, sz := 1, exact := true, fz := false, body := Body.rows [[AV.val (Value.string { data := #[UInt8.ofNat (Int.toNat (IntKind.wrap IntKind.u8 (IntKind.wrap IntKind.i64 ((97 : Int) + bits BinOp.and IntKind.i64 (↑n : Int) (15 : Int))))), UInt8.ofNat (Int.toNat (IntKind.wrap IntKind.u8 (IntKind.wrap IntKind.i64 ((97 : Int) + bits BinOp.and IntKind.i64 (Int.fdiv (↑n : Int) (16 : Int)) (7 : Int)))))] })]] }), (15, { t := 31, sz := 3, exact := true, fz := false, body := Body.rows [[AV.sl 13 0 1 none, AV.val (Value.int IntKind.i64 (1 : Int)), AV.val (Value.int IntKind.i64 (1 : Int))]] })], 18,
   (∀ (x : AV), x ∈ [AV.val (Value.int IntKind.u8 (IntKind.wrap IntKind.u8 (IntKind.wrap IntKind.i64 ((97 : Int) + bits BinOp.and IntKind.i64 (↑n : Int) (15 : Int))))), AV.val (Value.int IntKind.u8 (IntKind.wrap IntKind.u8 (IntKind.wrap IntKind.i64 ((97 : Int) + bits BinOp.and IntKind.i64 (Int.fdiv (↑n : Int) (16 : Int)) (7 : Int)))))] → isByteAV x) :: []) := by kernel_rfl

set_option maxRecDepth 100000 in
theorem ap_cp (n : Nat) : outXS kCa [] Try.prog 74 [AV.agg [AV.val (Value.int IntKind.i64 (↑n : Int)), AV.val (Value.int IntKind.i64 (256 : Int)), vQ [kq n], AV.val (Value.slice none 0 0), AV.val (Value.slice none 0 0), AV.val (Value.slice none 0 0)]] [] 0 [7] [] =
   some (AV.agg [AV.val (Value.int IntKind.i64 (↑n : Int)), AV.val (Value.int IntKind.i64 (256 : Int)), AV.sl 7 0 1 none, AV.val (Value.slice none 0 0), AV.val (Value.slice none 0 0), AV.val (Value.slice none 0 0)], [(7, { t := 31, sz := 3, exact := true, fz := false, body := Body.rows [[vS [List.getD (lsOf (vS [nmB n])) 0 []], AV.val (Value.int IntKind.i64 (1 : Int)), AV.val (Value.int IntKind.i64 (1 : Int))]] })], 18,
   ((vS [nmB n]) = vS [List.getD (lsOf (vS [nmB n])) 0 []]) :: []) := by kernel_rfl

set_option maxRecDepth 100000 in
theorem px_no (l : List (Nat × Int × Int)) (o : Nat) (i : Nat) (y : Nat) (e : Int) (p : Int) : stepXS kN2 [(76, { op := [(4, 4, Hn.row (qrow (y, e, p)))], br := [(9, true), (16, false)], ob := [(4, 3), (4, 5)] })] Try.prog 76 2 (pxG l o i) (pxG l o (i + 1)) [] 2 [] =
   some (.normal,
   (decide ((↑i : Int) < (↑(List.length l) : Int)) = true) ::
   ((0 : Int) ≤ (↑i : Int) ∧ (↑i : Int) < (↑(List.length l) : Int)) ::
   ((qrows l)[0 + i]? = some [AV.val (Value.int IntKind.i64 (↑y : Int)), AV.val (Value.int IntKind.i64 (256 : Int)), vQ [kq (Prod.fst (y, e, p))], AV.val (Value.slice none 0 0), AV.val (Value.slice none 0 0), AV.val (Value.slice none 0 0), AV.val (Value.int IntKind.u8 (2 : Int)), AV.val (Value.int IntKind.u8 (IntKind.wrap IntKind.u8 (↑y : Int))), AV.val (Value.int IntKind.u8 (0 : Int)), AV.val (Value.int IntKind.u8 (0 : Int)), AV.val (Value.int IntKind.u8 (0 : Int)), AV.val (Value.int IntKind.u8 (0 : Int)), AV.val (Value.int IntKind.u8 (10 : Int)), AV.val (Value.int IntKind.u8 (0 : Int)), AV.val (Value.int IntKind.u8 (0 : Int)), AV.val (Value.int IntKind.u8 (IntKind.wrap IntKind.u8 (↑y : Int))), AV.val (Value.int IntKind.i64 (IntKind.wrap IntKind.i64 ((1000 : Int) + (↑y : Int)))), AV.val (Value.int IntKind.i64 e), AV.val (Value.int IntKind.i64 p), AV.val (Value.int IntKind.i64 (0 : Int))]) ::
   ((p == IntKind.wrap IntKind.i64 ((20000 : Int) + (↑o : Int))) = false) ::
   (AV.fn (Fn.func 117) [AV.ptr 1 0 0] = AV.fn (Fn.func 117) [AV.ptr 1 0 0]) ::
   (AV.sl 0 0 (List.length l) none = AV.sl 0 0 (List.length l) none) ::
   (AV.val (Value.int IntKind.i64 (↑(List.length l) : Int)) = AV.val (Value.int IntKind.i64 (↑(List.length l) : Int))) ::
   (AV.val (Value.int IntKind.i64 (IntKind.wrap IntKind.i64 ((↑i : Int) + (1 : Int)))) = AV.val (Value.int IntKind.i64 (↑(i + 1) : Int))) ::
   (SameO (some { t := 125, sz := 20, exact := false, fz := false, body := Body.flat (qrows l) }) { t := 125, sz := 20, exact := false, fz := false, body := Body.flat (List.map (fun x => (AV.brecOn_1.go x (AV.ren._f (renX 2 [] 21)) (renL._f (renX 2 [] 21))).1) (qrows l)) }) ::
   (SameO (some { t := 3, sz := 1, exact := true, fz := false, body := Body.rows [[AV.val (Value.int IntKind.i64 (↑o : Int))]] }) { t := 3, sz := 1, exact := true, fz := false, body := Body.rows [[AV.val (Value.int IntKind.i64 (↑o : Int))]] }) :: []) := by kernel_rfl

set_option maxRecDepth 100000 in
theorem px_hit (l : List (Nat × Int × Int)) (o : Nat) (i : Nat) (y : Nat) (e : Int) (p : Int) : stepXS kN2 [(76, { op := [(4, 4, Hn.row (qrow (y, e, p)))], br := [(9, true), (16, true)], ob := [(4, 3), (4, 5)] })] Try.prog 76 2 (pxG l o i) (pxR l o i) [] 2 [] =
   some (.ret,
   (decide ((↑i : Int) < (↑(List.length l) : Int)) = true) ::
   ((0 : Int) ≤ (↑i : Int) ∧ (↑i : Int) < (↑(List.length l) : Int)) ::
   ((qrows l)[0 + i]? = some [AV.val (Value.int IntKind.i64 (↑y : Int)), AV.val (Value.int IntKind.i64 (256 : Int)), vQ [kq (Prod.fst (y, e, p))], AV.val (Value.slice none 0 0), AV.val (Value.slice none 0 0), AV.val (Value.slice none 0 0), AV.val (Value.int IntKind.u8 (2 : Int)), AV.val (Value.int IntKind.u8 (IntKind.wrap IntKind.u8 (↑y : Int))), AV.val (Value.int IntKind.u8 (0 : Int)), AV.val (Value.int IntKind.u8 (0 : Int)), AV.val (Value.int IntKind.u8 (0 : Int)), AV.val (Value.int IntKind.u8 (0 : Int)), AV.val (Value.int IntKind.u8 (10 : Int)), AV.val (Value.int IntKind.u8 (0 : Int)), AV.val (Value.int IntKind.u8 (0 : Int)), AV.val (Value.int IntKind.u8 (IntKind.wrap IntKind.u8 (↑y : Int))), AV.val (Value.int IntKind.i64 (IntKind.wrap IntKind.i64 ((1000 : Int) + (↑y : Int)))), AV.val (Value.int IntKind.i64 e), AV.val (Value.int IntKind.i64 p), AV.val (Value.int IntKind.i64 (0 : Int))]) ::
   ((p == IntKind.wrap IntKind.i64 ((20000 : Int) + (↑o : Int))) = true) ::
   (AV.val (Value.int IntKind.i64 (↑i : Int)) = AV.val (Value.int IntKind.i64 (↑i : Int))) ::
   (SameO (some { t := 125, sz := 20, exact := false, fz := false, body := Body.flat (qrows l) }) { t := 125, sz := 20, exact := false, fz := false, body := Body.flat (List.map (fun x => (AV.brecOn_1.go x (AV.ren._f (renX 2 [] 21)) (renL._f (renX 2 [] 21))).1) (qrows l)) }) ::
   (SameO (some { t := 3, sz := 1, exact := true, fz := false, body := Body.rows [[AV.val (Value.int IntKind.i64 (↑o : Int))]] }) { t := 3, sz := 1, exact := true, fz := false, body := Body.rows [[AV.val (Value.int IntKind.i64 (↑o : Int))]] }) :: []) := by kernel_rfl

set_option maxRecDepth 100000 in
theorem px_end (l : List (Nat × Int × Int)) (o : Nat) : stepXS kN2 [(76, { br := [(9, false)] })] Try.prog 76 2 (pxG l o (List.length l)) (pxE l o) [] 2 [] =
   some (.exit 0,
   (decide ((↑(List.length l) : Int) < (↑(List.length l) : Int)) = false) ::
   (SameO (some { t := 125, sz := 20, exact := false, fz := false, body := Body.flat (qrows l) }) { t := 125, sz := 20, exact := false, fz := false, body := Body.flat (List.map (fun x => (AV.brecOn_1.go x (AV.ren._f (renX 2 [] 3)) (renL._f (renX 2 [] 3))).1) (qrows l)) }) ::
   (SameO (some { t := 3, sz := 1, exact := true, fz := false, body := Body.rows [[AV.val (Value.int IntKind.i64 (↑o : Int))]] }) { t := 3, sz := 1, exact := true, fz := false, body := Body.rows [[AV.val (Value.int IntKind.i64 (↑o : Int))]] }) :: []) := by kernel_rfl

set_option maxRecDepth 100000 in
theorem px_some (l : List (Nat × Int × Int)) (o : Nat) (i : Nat) : outXS kN2 [] Try.prog 76 [AV.sl 0 0 (List.length l) none, AV.fn (Fn.func 117) [AV.ptr 1 0 0]] [(0, { t := 125, sz := 20, exact := false, fz := false, body := Body.flat (qrows l) }), (1, { t := 3, sz := 1, exact := true, fz := false, body := Body.rows [[AV.val (Value.int IntKind.i64 (↑o : Int))]] })] 2 [0, 1] [(2, pxLR l o i)] =
   some (AV.val (Value.int IntKind.i64 (↑i : Int)), [(0, { t := 125, sz := 20, exact := false, fz := false, body := Body.flat (qrows l) }), (1, { t := 3, sz := 1, exact := true, fz := false, body := Body.rows [[AV.val (Value.int IntKind.i64 (↑o : Int))]] })], 2,
   (AV.fn (Fn.func 117) [AV.ptr 1 0 0] = AV.fn (Fn.func 117) [AV.ptr 1 0 0]) ::
   (AV.sl 0 0 (List.length l) none = AV.sl 0 0 (List.length l) none) ::
   (AV.val (Value.int IntKind.i64 (↑(List.length l) : Int)) = AV.val (Value.int IntKind.i64 (↑(List.length l) : Int))) ::
   (AV.val (Value.int IntKind.i64 (0 : Int)) = AV.val (Value.int IntKind.i64 (0 : Int))) ::
   (SameO (some { t := 125, sz := 20, exact := false, fz := false, body := Body.flat (qrows l) }) { t := 125, sz := 20, exact := false, fz := false, body := Body.flat (List.map (fun x => (AV.brecOn_1.go x (AV.ren._f (renX 2 [] 6)) (renL._f (renX 2 [] 6))).1) (qrows l)) }) ::
   (SameO (some { t := 3, sz := 1, exact := true, fz := false, body := Body.rows [[AV.val (Value.int IntKind.i64 (↑o : Int))]] }) { t := 3, sz := 1, exact := true, fz := false, body := Body.rows [[AV.val (Value.int IntKind.i64 (↑o : Int))]] }) ::
   (EvXL Try.prog 2 (loopAt Try.prog 76 2) (GoalX.st (LoopX.G (pxLR l o i)) 2) (LoopX.ex (pxLR l o i)) (GoalX.st (LoopX.E (pxLR l o i)) 2)) :: []) := by kernel_rfl

set_option maxRecDepth 100000 in
theorem px_none (l : List (Nat × Int × Int)) (o : Nat) : outXS kN2 [] Try.prog 76 [AV.sl 0 0 (List.length l) none, AV.fn (Fn.func 117) [AV.ptr 1 0 0]] [(0, { t := 125, sz := 20, exact := false, fz := false, body := Body.flat (qrows l) }), (1, { t := 3, sz := 1, exact := true, fz := false, body := Body.rows [[AV.val (Value.int IntKind.i64 (↑o : Int))]] })] 2 [0, 1] [(2, pxLE l o)] =
   some (AV.val (Value.int IntKind.i64 (-1 : Int)), [(0, { t := 125, sz := 20, exact := false, fz := false, body := Body.flat (qrows l) }), (1, { t := 3, sz := 1, exact := true, fz := false, body := Body.rows [[AV.val (Value.int IntKind.i64 (↑o : Int))]] })], 3,
   (AV.fn (Fn.func 117) [AV.ptr 1 0 0] = AV.fn (Fn.func 117) [AV.ptr 1 0 0]) ::
   (AV.sl 0 0 (List.length l) none = AV.sl 0 0 (List.length l) none) ::
   (AV.val (Value.int IntKind.i64 (↑(List.length l) : Int)) = AV.val (Value.int IntKind.i64 (↑(List.length l) : Int))) ::
   (AV.val (Value.int IntKind.i64 (0 : Int)) = AV.val (Value.int IntKind.i64 (0 : Int))) ::
   (SameO (some { t := 125, sz := 20, exact := false, fz := false, body := Body.flat (qrows l) }) { t := 125, sz := 20, exact := false, fz := false, body := Body.flat (List.map (fun x => (AV.brecOn_1.go x (AV.ren._f (renX 2 [] 6)) (renL._f (renX 2 [] 6))).1) (qrows l)) }) ::
   (SameO (some { t := 3, sz := 1, exact := true, fz := false, body := Body.rows [[AV.val (Value.int IntKind.i64 (↑o : Int))]] }) { t := 3, sz := 1, exact := true, fz := false, body := Body.rows [[AV.val (Value.int IntKind.i64 (↑o : Int))]] }) ::
   (EvXL Try.prog 2 (loopAt Try.prog 76 2) (GoalX.st (LoopX.G (pxLE l o)) 2) (LoopX.ex (pxLE l o)) (GoalX.st (LoopX.E (pxLE l o)) 2)) :: []) := by kernel_rfl
end Go.Proofs.Ytmilcpejchjleaa

/- The law AskPorts: questions made and copied; looking for a port: contracts. -/
namespace Go.Proofs.Ytmilcpejchjleaa
open Go.RowKit
set_option linter.unusedSimpArgs false
set_option linter.unusedVariables false

def askM (n : Nat) : AV := .agg [iI n, iI 256, vQ [kq n], nilS, nilS, nilS]
theorem askM_told {E : Env} {w : World} {B : List Nat} {x y a b c d e : AV} {u : Value} {va vb vc vd ve : Value} (ha : a = .val va) (hb : b = .val vb) (hc : c = .val vc) (hd : d = .val vd) (he : e = .val ve) (h : Rep E w (.agg [a, b, x, c, d, e]) u) (hx : ∀ v, Rep E w x v → Rep (E.frz B) w y v) : Rep (E.frz B) w (.agg [a, b, y, c, d, e]) u := by
  subst ha hb hc hd he
  refine h.aggF rfl fun k p p' v h1 h2 h3 => ?_
  match k with
  | 0 => simp at h1 h2; subst h1 h2; exact h3.valF
  | 1 => simp at h1 h2; subst h1 h2; exact h3.valF
  | 2 => simp at h1 h2; subst h1 h2; exact hx v h3
  | 3 => simp at h1 h2; subst h1 h2; exact h3.valF
  | 4 => simp at h1 h2; subst h1 h2; exact h3.valF
  | 5 => simp at h1 h2; subst h1 h2; exact h3.valF
  | k + 6 => simp at h1
theorem qrow_told {E : Env} {w : World} {B : List Nat} {t : TypeId} {sz : Nat} {ex fz : Bool} {x y : AV} {a b : Value} (hx : ∀ v, Rep E w x v → Rep (E.frz B) w y v) : (AObj.mk t sz ex fz (.rows [[x, .val a, .val b]])).Told E w B ⟨t, sz, ex, fz, .rows [[y, .val a, .val b]]⟩ := by
  refine AObj.Told.row1 rfl fun k p p' h1 h2 v h3 => ?_
  match k with
  | 0 => simp at h1 h2; subst h1 h2; exact hx v h3
  | 1 => simp at h1 h2; subst h1 h2; exact h3.valF
  | 2 => simp at h1 h2; subst h1 h2; exact h3.valF
  | k + 3 => simp at h1

theorem asks_call (n : Nat) (h : n < 128) : ACall Try.prog 35 [sI n, sI n] [] 0 (askM n) [] 100 := by
  have h0 := outXS_ok kN2_ok (ap_asks n) (allCons (nm_byte h) allNil)
  have h1 := ACall.toldO (L2 := [(15, ⟨31, 3, true, false, .rows [[vS [nmB n], iI 1, iI 1]]⟩)]) [13] h0 (fun id hid => by
    have e := List.mem_singleton.1 hid
    subst e
    exact ⟨_, rfl⟩) (fun id x hid => by
    simp only [hp] at hid
    split at hid
    · rename_i e
      subst e
      injection hid with hid
      subst hid
      refine ⟨by decide, _, rfl, fun E w hs => qrow_told fun v hv => Rep.frzRow (id := 13) (es := [nmB n]) hs rfl (by decide) (.inr ?_) rfl rfl hv⟩
      rw [← nm_raw h]
      rfl
    · cases hid) (fun E w u hs hr => hr.more (more_frz E w [13]))
  refine (ACall.told [15] h1 (fun id hid => by
    have e := List.mem_singleton.1 hid
    subst e
    exact ⟨_, rfl⟩) (fun id x hid => by cases hid) fun E w u hs hr => ?_).upTo (by decide)
  exact askM_told rfl rfl rfl rfl rfl hr fun v hv => WQ.frzRows (id := 15) (ls := [kq n]) hs rfl (by decide) (.inl rfl) rfl rfl hv

theorem cpm_call (n : Nat) : ACall Try.prog 74 [askM n] [] 0 (askM n) [] 100 := by
  have h0 := outXS_ok kCa_ok (ap_cp n) (by
    rw [lsOf_vS]
    exact allCons rfl allNil)
  rw [lsOf_vS, List.getD_cons_zero] at h0
  refine (ACall.told [7] h0 (fun id hid => by
    have e := List.mem_singleton.1 hid
    subst e
    exact ⟨_, rfl⟩) (fun id x hid => by cases hid) fun E w u hs hr => ?_).upTo (by decide)
  exact askM_told rfl rfl rfl rfl rfl hr fun v hv => WQ.frzRows (id := 7) (ls := [kq n]) hs rfl (by decide) (.inl rfl) rfl rfl hv

/-! ### known -/
def kAsks : Inl := fun g xs L nx =>
  if g = 35 then
    match xs with
    | [.val (.int .i64 n), .val (.int .i64 m)] => some (askM n.toNat, L, nx, [n = m, 0 ≤ n, n < 128])
    | _ => none
  else none
theorem askM_ren (n : Nat) (r : Nat → Nat) : (askM n).ren r = askM n := rfl
theorem kAsks_ok : InlOk Try.prog kAsks := by
  intro g xs L nx w L' nx' q h hq
  unfold kAsks at h
  split at h
  · rename_i hg
    subst hg
    split at h
    · rename_i n m
      simp only [Option.some.injEq, Prod.mk.injEq] at h
      obtain ⟨rfl, rfl, rfl, rfl⟩ := h
      simp only [List.forall_mem_cons, List.not_mem_nil, false_implies, implies_true, and_true] at hq
      obtain ⟨rfl, q1, q2⟩ := hq
      have := ACall.liftV (asks_call n.toNat (by omega)) (fun r => rfl) (fun r => askM_ren _ r) L nx
      rw [show sI n.toNat = .val (.int .i64 n) from by unfold sI; rw [Int.toNat_of_nonneg q1]] at this
      exact ⟨this, Nat.le_refl _⟩
    · cases h
  · cases h
def kCpm : Inl := fun g xs L nx =>
  if g = 74 then
    match xs with
    | [.agg [.val (.int .i64 n), .val (.int .i64 f), x, a, b, c]] => some (askM n.toNat, L, nx, [.agg [.val (.int .i64 n), .val (.int .i64 f), x, a, b, c] = askM n.toNat])
    | _ => none
  else none
theorem kCpm_ok : InlOk Try.prog kCpm := by
  intro g xs L nx w L' nx' q h hq
  unfold kCpm at h
  split at h
  · rename_i hg
    subst hg
    split at h
    · rename_i n f x a b c
      simp only [Option.some.injEq, Prod.mk.injEq] at h
      obtain ⟨rfl, rfl, rfl, rfl⟩ := h
      have e := hq _ (List.mem_singleton.2 rfl)
      rw [e]
      exact ⟨ACall.liftV (cpm_call n.toNat) (fun r => by
        show [(askM _).ren r] = _
        rw [askM_ren]) (fun r => askM_ren _ r) L nx, Nat.le_refl _⟩
    · cases h
  · cases h

/-! ### looking for a port -/
theorem same_qr {t sz : Nat} {ex fz : Bool} {f : List AV → List AV} {es : List (Nat × Int × Int)} {l : List (List AV)} (hf : ∀ s, f (qrow s) = qrow s) (h : l = qrows es) : SameO (some { t := t, sz := sz, exact := ex, fz := fz, body := .flat l }) { t := t, sz := sz, exact := ex, fz := fz, body := .flat ((qrows es).map f) } := by
  have : (qrows es).map f = qrows es := by
    unfold qrows
    rw [List.map_map]
    exact List.map_congr_left fun e _ => hf e
  rw [this, h]
  exact rfl
theorem ren_qr (r : Nat → Nat) (l : List (Nat × Int × Int)) : (wObj l).ren r = wObj l := by
  unfold wObj AObj.ren
  simp only
  congr 2
  unfold qrows
  rw [List.map_map]
  exact List.map_congr_left fun e _ => rfl
theorem px_loop (l : List (Nat × Int × Int)) (o : Nat) (hl : l.length ≤ 1000000) (ho : o < 10000) : ∀ (k i : Nat), i + k = l.length →
    (∀ n : Nat, fP o (l.drop i) i = (n : Int) → EvXL Try.prog 2 (loopAt Try.prog 76 2) ((pxG l o i).st 2) .ret ((pxR l o n).st 2)) ∧
    (fP o (l.drop i) i = -1 → EvXL Try.prog 2 (loopAt Try.prog 76 2) ((pxG l o i).st 2) (.exit 0) ((pxE l o).st 2))
  | 0, i, hk => by
    obtain rfl : i = l.length := by omega
    rw [List.drop_length]
    refine ⟨fun n h => ?_, fun _ => ?_⟩
    · have h : (-1 : Int) = (n : Int) := h
      omega
    · exact EvXL.last (stepXS_ok kN2_ok (px_end l o) (by
        repeat' (first | exact allNil | refine allCons ?_ ?_ | (with_reducible refine allRp _ ?_ ?_))
        all_goals first | (with_reducible rfl) | exact decide_eq_false (by omega) | exact same_qr (fun _ => rfl) rfl | exact rfl)) (by simp)
  | k + 1, i, hk => by
    have hi : i < l.length := by omega
    have hx : l[i]? = some (l[i].1, l[i].2.1, l[i].2.2) := List.getElem?_eq_getElem hi
    have hd : l.drop i = l[i] :: l.drop (i + 1) := List.drop_eq_getElem_cons hi
    have ew : IntKind.wrap IntKind.i64 ((20000 : Int) + (o : Int)) = 20000 + (o : Int) := w64 _ (by omega)
    rw [hd]
    by_cases h : l[i].2.2 = 20000 + (o : Int)
    · have e : fP o (l[i] :: l.drop (i + 1)) i = (i : Int) := if_pos h
      rw [e]
      refine ⟨fun n hn => ?_, fun hn => by omega⟩
      obtain rfl : i = n := by omega
      exact EvXL.last (stepXS_ok kN2_ok (px_hit l o i l[i].1 l[i].2.1 l[i].2.2) (by
        rw [ew]
        repeat' (first | exact allNil | refine allCons ?_ ?_ | (with_reducible refine allRp _ ?_ ?_))
        all_goals first | (with_reducible rfl) | exact decide_eq_true (by omega) | omega | (rw [Nat.zero_add]; exact qrows_get hx) | exact beq_iff_eq.2 h | exact same_qr (fun _ => rfl) rfl | exact rfl)) (by simp)
    · have e : fP o (l[i] :: l.drop (i + 1)) i = fP o (l.drop (i + 1)) (i + 1) := if_neg h
      rw [e]
      have hs : EvX Try.prog 2 (loopAt Try.prog 76 2) ((pxG l o i).st 2) .normal ((pxG l o (i + 1)).st 2) := stepXS_ok kN2_ok (px_no l o i l[i].1 l[i].2.1 l[i].2.2) (by
        rw [ew]
        repeat' (first | exact allNil | refine allCons ?_ ?_ | (with_reducible refine allRp _ ?_ ?_))
        all_goals first | (with_reducible rfl) | exact decide_eq_true (by omega) | omega | (rw [Nat.zero_add]; exact qrows_get hx) | exact beq_eq_false_iff_ne.2 h | exact sI_succ i (by omega) | exact same_qr (fun _ => rfl) rfl | exact rfl)
      obtain ⟨ih1, ih2⟩ := px_loop l o hl ho k (i + 1) (by omega)
      exact ⟨fun n h => EvXL.step hs (ih1 n h), fun h => EvXL.step hs (ih2 h)⟩
theorem fP_nat (o : Nat) : ∀ (l : List (Nat × Int × Int)) (i : Nat), fP o l i ≠ -1 → ∃ n : Nat, fP o l i = (n : Int)
  | [], _, h => absurd rfl h
  | x :: r, i, h => by
    unfold fP at h ⊢
    split
    · exact ⟨i, rfl⟩
    · rename_i hx
      rw [if_neg hx] at h
      exact fP_nat o r (i + 1) h
theorem px_call (l : List (Nat × Int × Int)) (o : Nat) (hl : l.length ≤ 1000000) (ho : o < 10000) : ACall Try.prog 76 [.sl 0 0 l.length none, pxF] [(0, wObj l), (1, intQ o)] 2 (iI (fP o l 0)) [(0, wObj l), (1, intQ o)] 3 := by
  obtain ⟨h1, h2⟩ := px_loop l o hl ho l.length 0 (by omega)
  rw [List.drop_zero] at h1 h2
  by_cases h : fP o l 0 = -1
  · rw [h]
    refine (outXS_ok kN2_ok (px_none l o) ?_).upTo (by decide)
    repeat' (first | exact allNil | refine allCons ?_ ?_ | (with_reducible refine allRp _ ?_ ?_))
    all_goals first | (with_reducible rfl) | exact h2 h | exact same_qr (fun _ => rfl) rfl | exact rfl
  · obtain ⟨n, hn⟩ := fP_nat o l 0 h
    rw [hn]
    refine (outXS_ok kN2_ok (px_some l o n) ?_).upTo (by decide)
    repeat' (first | exact allNil | refine allCons ?_ ?_ | (with_reducible refine allRp _ ?_ ?_))
    all_goals first | (with_reducible rfl) | exact h1 n hn | exact same_qr (fun _ => rfl) rfl | exact rfl

def kPx : Inl := fun g xs L nx =>
  if g = 76 then
    match xs with
    | [.sl id 0 n none, .fn (.func f) [.ptr i1 0 0]] =>
      if f = 117 ∧ nodupB [id, i1] = true ∧ id < nx ∧ i1 < nx then
        match hp L id, hp L i1 with
        | some ⟨t0, 20, false, false, .flat l⟩, some ⟨t1, 1, true, false, .rows [[.val (.int .i64 o)]]⟩ =>
          if t0 = 125 ∧ t1 = 3 then some (iI (fP o.toNat (qal l) 0), L, nx + 1, [l = qrows (qal l), n = l.length, n ≤ 1000000, 0 ≤ o, o < 10000]) else none
        | _, _ => none
      else none
    | _ => none
  else none
theorem kPx_ok : InlOk Try.prog kPx := by
  intro g xs L nx v L' nx' q h hq
  unfold kPx at h
  split at h
  · rename_i hg
    subst hg
    split at h
    · rename_i id n f i1
      split at h
      · rename_i hc
        split at h
        · rename_i t0 l t1 o q0 q1
          split at h
          · rename_i ht
            simp only [Option.some.injEq, Prod.mk.injEq] at h
            obtain ⟨rfl, rfl, rfl, rfl⟩ := h
            obtain ⟨rfl, rfl⟩ := ht
            obtain ⟨rfl, hnd, c0, c1⟩ := hc
            simp only [List.forall_mem_cons, List.not_mem_nil, false_implies, implies_true, and_true] at hq
            obtain ⟨e1, rfl, hn, ho0, ho⟩ := hq
            refine ⟨?_, by omega⟩
            have hl : (qal l).length = l.length := by unfold qal; exact List.length_map _
            have k := px_call (qal l) o.toNat (by omega) (by omega)
            have u := ACall.usedW (ids := [id, i1]) (K := L) (nx := nx) (k : ACall Try.prog _ _ _ [id, i1].length _ _ 3) (nodupB_ok hnd) (by simp [c0, c1]) (by simp) (fun m y hm => ?_) (fun m hm => ?_) rfl
            · rw [hl] at u
              exact u
            · simp only [hp] at hm
              split at hm
              · rename_i e; subst e; injection hm with hm; subst hm
                exact ⟨by simp, by rw [ren_qr]; simp only [renN, List.getD_cons_zero]; rw [q0]; unfold wObj; rw [← e1]⟩
              · split at hm
                · rename_i e; subst e; injection hm with hm; subst hm
                  refine ⟨by simp, ?_⟩
                  show hp L i1 = _
                  rw [q1, show o = ((o.toNat : Nat) : Int) from (Int.toNat_of_nonneg ho0).symm]
                  rfl
                · cases hm
            · match m, hm with
              | 0, _ => exact ⟨_, rfl⟩
              | 1, _ => exact ⟨_, rfl⟩
          · cases h
        · cases h
      · cases h
    · cases h
  · cases h
def kPq : Inl := orInl kPx (orInl kCpm (orInl kAsks kCa))
theorem kPq_ok : InlOk Try.prog kPq := orInl_ok kPx_ok (orInl_ok kCpm_ok (orInl_ok kAsks_ok kCa_ok))
end Go.Proofs.Ytmilcpejchjleaa

/- The law AskPorts (runs of the search for a port). No condition. -/
namespace Go.Proofs.Ytmilcpejchjleaa
open Go.RowKit

set_option maxRecDepth 100000 in
theorem po_busy (l : List (Nat × Int × Int)) (o : Nat) : stepXS kPq [(75, { br := [(19, false)], ob := [(3, 5)] }),
   (116, { ob := [(1, 2)] })] Try.prog 75 3 (poG l o) (poG l ((o + 1) % 10000)) [19] 3 [] =
   some (.normal,
   (qrows l = qrows (qal (qrows l))) ::
   (List.length l = List.length (qrows l)) ::
   (List.length l ≤ 1000000) ::
   ((0 : Int) ≤ (↑o : Int)) ::
   ((↑o : Int) < (10000 : Int)) ::
   ((!decide (fP o (qal (qrows l)) 0 ≥ (0 : Int))) = false) ::
   (SameO (some { t := 121, sz := 3, exact := true, fz := false, body := Body.rows [[AV.val (Value.int IntKind.i64 (32 : Int)), AV.sl 1 0 (List.length l) none, AV.ptr 2 0 0]] }) { t := 121, sz := 3, exact := true, fz := false, body := Body.rows [[AV.val (Value.int IntKind.i64 (32 : Int)), AV.sl 1 0 (List.length l) none, AV.ptr 2 0 0]] }) ::
   (SameO (some { t := 125, sz := 20, exact := false, fz := false, body := Body.flat (qrows l) }) { t := 125, sz := 20, exact := false, fz := false, body := Body.flat (List.map (fun x => (AV.brecOn_1.go x (AV.ren._f (renX 3 [19] 25)) (renL._f (renX 3 [19] 25))).1) (qrows l)) }) ::
   (SameO (some { t := 109, sz := 2, exact := true, fz := false, body := Body.rows [[AV.val (Value.int IntKind.i64 (64 : Int)), AV.val (Value.slice none 0 0)]] }) { t := 109, sz := 2, exact := true, fz := false, body := Body.rows [[AV.val (Value.int IntKind.i64 (64 : Int)), AV.val (Value.slice none 0 0)]] }) ::
   (SameO (some { t := 3, sz := 1, exact := true, fz := false, body := Body.rows [[AV.val (Value.int IntKind.i64 (Int.tmod (IntKind.wrap IntKind.i64 ((↑o : Int) + (1 : Int))) (10000 : Int)))]] }) { t := 3, sz := 1, exact := true, fz := false, body := Body.rows [[AV.val (Value.int IntKind.i64 (↑((o + 1) % 10000) : Int))]] }) :: []) := by kernel_rfl

set_option maxRecDepth 100000 in
theorem po_free (l : List (Nat × Int × Int)) (o : Nat) : stepXS kPq [(75, { br := [(19, true)], ob := [(3, 5)] }),
   (116, { ob := [(1, 2)] })] Try.prog 75 3 (poG l o) (poE l o) [] 3 [] =
   some (.ret,
   (qrows l = qrows (qal (qrows l))) ::
   (List.length l = List.length (qrows l)) ::
   (List.length l ≤ 1000000) ::
   ((0 : Int) ≤ (↑o : Int)) ::
   ((↑o : Int) < (10000 : Int)) ::
   ((!decide (fP o (qal (qrows l)) 0 ≥ (0 : Int))) = true) ::
   (AV.val (Value.int IntKind.i64 (IntKind.wrap IntKind.i64 ((20000 : Int) + (↑o : Int)))) = AV.val (Value.int IntKind.i64 ((20000 : Int) + (↑o : Int)))) ::
   (SameO (some { t := 121, sz := 3, exact := true, fz := false, body := Body.rows [[AV.val (Value.int IntKind.i64 (32 : Int)), AV.sl 1 0 (List.length l) none, AV.ptr 2 0 0]] }) { t := 121, sz := 3, exact := true, fz := false, body := Body.rows [[AV.val (Value.int IntKind.i64 (32 : Int)), AV.sl 1 0 (List.length l) none, AV.ptr 2 0 0]] }) ::
   (SameO (some { t := 125, sz := 20, exact := false, fz := false, body := Body.flat (qrows l) }) { t := 125, sz := 20, exact := false, fz := false, body := Body.flat (List.map (fun x => (AV.brecOn_1.go x (AV.ren._f (renX 3 [] 21)) (renL._f (renX 3 [] 21))).1) (qrows l)) }) ::
   (SameO (some { t := 109, sz := 2, exact := true, fz := false, body := Body.rows [[AV.val (Value.int IntKind.i64 (64 : Int)), AV.val (Value.slice none 0 0)]] }) { t := 109, sz := 2, exact := true, fz := false, body := Body.rows [[AV.val (Value.int IntKind.i64 (64 : Int)), AV.val (Value.slice none 0 0)]] }) :: []) := by kernel_rfl

set_option maxRecDepth 100000 in
theorem po_all (l : List (Nat × Int × Int)) (d : Int) (o : Nat) (q : Nat) : outXS kPq [] Try.prog 75 [AV.ptr 0 0 0, AV.val (Value.int IntKind.u32 d)] [(0, { t := 121, sz := 3, exact := true, fz := false, body := Body.rows [[AV.val (Value.int IntKind.i64 (32 : Int)), AV.sl 1 0 (List.length l) none, AV.ptr 2 0 0]] }), (1, { t := 125, sz := 20, exact := false, fz := false, body := Body.flat (qrows l) }), (2, { t := 109, sz := 2, exact := true, fz := false, body := Body.rows [[AV.val (Value.int IntKind.i64 (64 : Int)), AV.val (Value.slice none 0 0)]] })] 3 [0, 1, 2] [(3, poL l o q 8)] =
   some (AV.val (Value.int IntKind.i64 ((20000 : Int) + (↑q : Int))), [(0, { t := 121, sz := 3, exact := true, fz := false, body := Body.rows [[AV.val (Value.int IntKind.i64 (32 : Int)), AV.sl 1 0 (List.length l) none, AV.ptr 2 0 0]] }), (1, { t := 125, sz := 20, exact := false, fz := false, body := Body.flat (qrows l) }), (2, { t := 109, sz := 2, exact := true, fz := false, body := Body.rows [[AV.val (Value.int IntKind.i64 (64 : Int)), AV.val (Value.slice none 0 0)]] })], 3,
   (SameO (some { t := 121, sz := 3, exact := true, fz := false, body := Body.rows [[AV.val (Value.int IntKind.i64 (32 : Int)), AV.sl 1 0 (List.length l) none, AV.ptr 2 0 0]] }) { t := 121, sz := 3, exact := true, fz := false, body := Body.rows [[AV.val (Value.int IntKind.i64 (32 : Int)), AV.sl 1 0 (List.length l) none, AV.ptr 2 0 0]] }) ::
   (SameO (some { t := 125, sz := 20, exact := false, fz := false, body := Body.flat (qrows l) }) { t := 125, sz := 20, exact := false, fz := false, body := Body.flat (List.map (fun x => (AV.brecOn_1.go x (AV.ren._f (renX 3 [8] 10)) (renL._f (renX 3 [8] 10))).1) (qrows l)) }) ::
   (SameO (some { t := 109, sz := 2, exact := true, fz := false, body := Body.rows [[AV.val (Value.int IntKind.i64 (64 : Int)), AV.val (Value.slice none 0 0)]] }) { t := 109, sz := 2, exact := true, fz := false, body := Body.rows [[AV.val (Value.int IntKind.i64 (64 : Int)), AV.val (Value.slice none 0 0)]] }) ::
   (SameO (some { t := 3, sz := 1, exact := true, fz := false, body := Body.rows [[AV.val (Value.int IntKind.i64 (Int.tmod (IntKind.wrap IntKind.i64 (Int.fdiv d (65536 : Int))) (10000 : Int)))]] }) { t := 3, sz := 1, exact := true, fz := false, body := Body.rows [[AV.val (Value.int IntKind.i64 (↑o : Int))]] }) ::
   (EvXL Try.prog 3 (loopAt Try.prog 75 3) (GoalX.st (LoopX.G (poL l o q 8)) 3) (LoopX.ex (poL l o q 8)) (GoalX.st (LoopX.E (poL l o q 8)) 3)) :: []) := by kernel_rfl
end Go.Proofs.Ytmilcpejchjleaa

/- The law AskPorts: a port that no question has: the search ends; contract. -/
namespace Go.Proofs.Ytmilcpejchjleaa
open Go.RowKit
set_option linter.unusedSimpArgs false
set_option linter.unusedVariables false

theorem nodup_len : ∀ (N P : List Int), N.Nodup → (∀ x ∈ N, x ∈ P) → N.length ≤ P.length
  | [], _, _, _ => Nat.zero_le _
  | x :: N, P, h, hs => by
    obtain ⟨h1, h2⟩ := List.nodup_cons.1 h
    have hx : x ∈ P := hs x List.mem_cons_self
    have := nodup_len N (P.erase x) h2 fun y hy => (List.mem_erase_of_ne (fun (e : y = x) => h1 (e ▸ hy))).2 (hs y (List.mem_cons_of_mem _ hy))
    rw [List.length_erase_of_mem hx] at this
    have hp : 0 < P.length := List.length_pos_of_mem hx
    simp only [List.length_cons]
    omega
theorem nodup_rng (f : Nat → Int) : ∀ n, (∀ a b, a < n → b < n → f a = f b → a = b) → ((List.range n).map f).Nodup
  | 0, _ => List.nodup_nil
  | n + 1, h => by
    rw [List.range_succ, List.map_append]
    refine List.nodup_append.2 ⟨nodup_rng f n fun a b ha hb => h a b (by omega) (by omega), by simp, fun x hx y hy e => ?_⟩
    obtain ⟨a, ha, rfl⟩ := List.mem_map.1 hx
    have ha := List.mem_range.1 ha
    simp only [List.map_cons, List.map_nil, List.mem_singleton] at hy
    subst hy
    have := h a n (by omega) (by omega) e
    omega
theorem fP_mem (o : Nat) : ∀ (l : List (Nat × Int × Int)) (i : Nat), fP o l i ≠ -1 → ∃ x ∈ l, x.2.2 = 20000 + (o : Int)
  | [], _, h => absurd rfl h
  | x :: r, i, h => by
    unfold fP at h
    split at h
    · rename_i hx
      exact ⟨x, List.mem_cons_self, hx⟩
    · obtain ⟨y, h1, h2⟩ := fP_mem o r (i + 1) h
      exact ⟨y, List.mem_cons_of_mem _ h1, h2⟩
theorem fP_not (o : Nat) : ∀ (l : List (Nat × Int × Int)) (i : Nat), fP o l i = -1 → ∀ x ∈ l, x.2.2 ≠ 20000 + (o : Int)
  | [], _, _ => fun x hx => by cases hx
  | x :: r, i, h => by
    unfold fP at h
    split at h
    · omega
    · rename_i hx
      intro y hy
      rcases List.mem_cons.1 hy with rfl | hy
      · exact hx
      · exact fP_not o r (i + 1) h y hy
/-- among 32 ports that follow each other one is free, if at most 31 are had -/
theorem some_free (l : List (Nat × Int × Int)) (hl : l.length ≤ 31) (o : Nat) : ∃ j, j ≤ 31 ∧ fP ((o + j) % 10000) l 0 = -1 := by
  by_cases h : ∃ j, j ≤ 31 ∧ fP ((o + j) % 10000) l 0 = -1
  · exact h
  · exfalso
    have hh : ∀ j, j ≤ 31 → fP ((o + j) % 10000) l 0 ≠ -1 := fun j hj e => h ⟨j, hj, e⟩
    have hN : ((List.range 32).map fun j => (20000 : Int) + (((o + j) % 10000 : Nat) : Int)).Nodup := by
      refine nodup_rng _ 32 fun a b ha hb e => ?_
      have e : (20000 : Int) + (((o + a) % 10000 : Nat) : Int) = 20000 + (((o + b) % 10000 : Nat) : Int) := e
      omega
    have := nodup_len _ (l.map fun x => x.2.2) hN fun y hy => by
      obtain ⟨j, hj, rfl⟩ := List.mem_map.1 hy
      have hj := List.mem_range.1 hj
      obtain ⟨x, h1, h2⟩ := fP_mem _ l 0 (hh j (by omega))
      exact List.mem_map.2 ⟨x, h1, h2⟩
    rw [List.length_map, List.length_map, List.length_range] at this
    omega

def frP (l : List (Nat × Int × Int)) : Nat → Nat → Nat
  | 0, o => o
  | k + 1, o => if fP o l 0 = -1 then o else frP l k ((o + 1) % 10000)
theorem frP_ok (l : List (Nat × Int × Int)) : ∀ k o, o < 10000 → (∃ j, j ≤ k ∧ fP ((o + j) % 10000) l 0 = -1) → fP (frP l k o) l 0 = -1 ∧ frP l k o < 10000
  | 0, o, ho, ⟨j, hj, h⟩ => by
    obtain rfl : j = 0 := by omega
    rw [Nat.add_zero, Nat.mod_eq_of_lt ho] at h
    exact ⟨h, ho⟩
  | k + 1, o, ho, ⟨j, hj, h⟩ => by
    unfold frP
    split
    · rename_i h1
      exact ⟨h1, ho⟩
    · rename_i h1
      refine frP_ok l k _ (Nat.mod_lt _ (by decide)) ⟨j - 1, by omega, ?_⟩
      have hj0 : j ≠ 0 := fun e => by
        subst e
        rw [Nat.add_zero, Nat.mod_eq_of_lt ho] at h
        exact h1 h
      rw [show ((o + 1) % 10000 + (j - 1)) % 10000 = (o + j) % 10000 from by omega]
      exact h

theorem po_loop (l : List (Nat × Int × Int)) (hl : l.length ≤ 1000000) : ∀ k o, o < 10000 → (∃ j, j ≤ k ∧ fP ((o + j) % 10000) l 0 = -1) →
    EvXL Try.prog 3 (loopAt Try.prog 75 3) ((poG l o).st 3) .ret ((poE l (frP l k o)).st 3) := by
  have free : ∀ o, o < 10000 → fP o l 0 = -1 → EvXL Try.prog 3 (loopAt Try.prog 75 3) ((poG l o).st 3) .ret ((poE l o).st 3) := fun o ho h => by
    have ew : IntKind.wrap IntKind.i64 ((20000 : Int) + (o : Int)) = 20000 + (o : Int) := w64 _ (by omega)
    refine EvXL.last (stepXS_ok kPq_ok (po_free l o) ?_) (by simp)
    simp only [qal_qrows, h, ew, qrows_len]
    repeat' (first | exact allNil | refine allCons ?_ ?_ | (with_reducible refine allRp _ ?_ ?_))
    all_goals first | exact True.intro | (with_reducible rfl) | omega | exact same_qr (fun _ => rfl) rfl | exact rfl
  intro k
  induction k with
  | zero =>
    intro o ho ⟨j, hj, h⟩
    obtain rfl : j = 0 := by omega
    rw [Nat.add_zero, Nat.mod_eq_of_lt ho] at h
    exact free o ho h
  | succ k ih =>
    intro o ho ⟨j, hj, h⟩
    unfold frP
    by_cases h1 : fP o l 0 = -1
    · rw [if_pos h1]
      exact free o ho h1
    · rw [if_neg h1]
      have hj0 : j ≠ 0 := fun e => by
        subst e
        rw [Nat.add_zero, Nat.mod_eq_of_lt ho] at h
        exact h1 h
      obtain ⟨p, hp⟩ := fP_nat o l 0 h1
      have ew : IntKind.wrap IntKind.i64 ((o : Int) + 1) = ((o + 1 : Nat) : Int) := by rw [w64 _ (by omega)]; omega
      have em : Int.tmod ((o + 1 : Nat) : Int) 10000 = (((o + 1) % 10000 : Nat) : Int) := rfl
      refine EvXL.step (stepXS_ok kPq_ok (po_busy l o) ?_) (ih _ (Nat.mod_lt _ (by decide)) ⟨j - 1, by omega, by rw [show ((o + 1) % 10000 + (j - 1)) % 10000 = (o + j) % 10000 from by omega]; exact h⟩)
      simp only [qal_qrows, hp, ew, em, qrows_len]
      repeat' (first | exact allNil | refine allCons ?_ ?_ | (with_reducible refine allRp _ ?_ ?_))
      all_goals first | exact True.intro | (with_reducible rfl) | omega | exact same_qr (fun _ => rfl) rfl | (simp; done) | exact rfl

/-- where the search begins -/
def stP (d : Int) : Nat := (d / 65536 % 10000).toNat
theorem stP_raw {d : Int} (h : 0 ≤ d ∧ d < 4294967296) : Int.tmod (IntKind.wrap IntKind.i64 (Int.fdiv d 65536)) 10000 = (stP d : Int) := by
  unfold stP
  rw [Int.fdiv_eq_ediv_of_nonneg _ (by decide), w64 _ (by omega), Int.tmod_eq_emod_of_nonneg (by omega), Int.toNat_of_nonneg (by omega)]
theorem port_call (l : List (Nat × Int × Int)) (hl : l.length ≤ 31) (d : Int) (hd : 0 ≤ d ∧ d < 4294967296) :
    ACall Try.prog 75 [.ptr 0 0 0, iU d] [(0, askO l.length 1 2), (1, wObj l), (2, c64)] 3 (iI (20000 + (frP l 31 (stP d) : Nat))) [(0, askO l.length 1 2), (1, wObj l), (2, c64)] 100 := by
  have hs : stP d < 10000 := by unfold stP; omega
  have L := po_loop l (by omega) 31 (stP d) hs (some_free l hl _)
  refine (outXS_ok kPq_ok (po_all l d (stP d) (frP l 31 (stP d))) ?_).upTo (by decide)
  simp only [stP_raw hd]
  repeat' (first | exact allNil | refine allCons ?_ ?_ | (with_reducible refine allRp _ ?_ ?_))
  all_goals first | exact True.intro | (with_reducible rfl) | exact L | omega | exact same_qr (fun _ => rfl) rfl | exact rfl

def kPort : Inl := fun g xs L nx =>
  if g = 75 then
    match xs with
    | [.ptr id 0 0, .val (.int .u32 d)] =>
      match hp L id with
      | some ⟨t1, 3, true, false, .rows [[.val (.int .i64 32), .sl id2 0 n none, .ptr id3 0 0]]⟩ =>
        match hp L id2, hp L id3 with
        | some ⟨t2, 20, false, false, .flat l⟩, some ⟨t3, 2, true, false, .rows [[.val (.int .i64 64), .val (.slice none 0 0)]]⟩ =>
          if t1 = 121 ∧ t2 = 125 ∧ t3 = 109 ∧ id < nx ∧ id2 < nx ∧ id3 < nx ∧ nodupB [id, id2, id3] = true then
            some (iI (20000 + (frP (qal l) 31 (stP d) : Nat)), L, nx + 97, [l = qrows (qal l), n = l.length, n ≤ 31, 0 ≤ d ∧ d < 4294967296])
          else none
        | _, _ => none
      | _ => none
    | _ => none
  else none
theorem kPort_ok : InlOk Try.prog kPort := by
  intro g xs L nx v L' nx' q h hq
  unfold kPort at h
  split at h
  · rename_i hg
    subst hg
    split at h
    · rename_i id d
      split at h
      · rename_i t1 id2 n id3 q0
        split at h
        · rename_i t2 l t3 q1 q2
          split at h
          · rename_i hc
            simp only [Option.some.injEq, Prod.mk.injEq] at h
            obtain ⟨rfl, rfl, rfl, rfl⟩ := h
            obtain ⟨rfl, rfl, rfl, c0, c1, c2, hnd⟩ := hc
            simp only [List.forall_mem_cons, List.not_mem_nil, false_implies, implies_true, and_true] at hq
            obtain ⟨e1, rfl, hn, hd⟩ := hq
            refine ⟨?_, by omega⟩
            have hl : (qal l).length = l.length := by unfold qal; exact List.length_map _
            have k := port_call (qal l) (by omega) d hd
            have u := ACall.usedW (ids := [id, id2, id3]) (K := L) (nx := nx) (k : ACall Try.prog _ _ _ [id, id2, id3].length _ _ 100) (nodupB_ok hnd) (by simp [c0, c1, c2]) (by simp) (fun m y hm => ?_) (fun m hm => ?_) rfl
            · exact u
            · simp only [hp] at hm
              split at hm
              · rename_i e; subst e; injection hm with hm; subst hm
                refine ⟨by simp, ?_⟩
                show hp L id = _
                rw [q0, hl]
                rfl
              · split at hm
                · rename_i e; subst e; injection hm with hm; subst hm
                  refine ⟨by simp, ?_⟩
                  rw [ren_qr]
                  show hp L id2 = _
                  rw [q1]
                  unfold wObj
                  rw [← e1]
                · split at hm
                  · rename_i e; subst e; injection hm with hm; subst hm
                    exact ⟨by simp, q2⟩
                  · cases hm
            · match m, hm with
              | 0, _ => exact ⟨_, rfl⟩
              | 1, _ => exact ⟨_, rfl⟩
              | 2, _ => exact ⟨_, rfl⟩
          · cases h
        · cases h
      · cases h
    · cases h
  · cases h
def kPo : Inl := orInl kPort kPq
theorem kPo_ok : InlOk Try.prog kPo := orInl_ok kPort_ok kPq_ok
end Go.Proofs.Ytmilcpejchjleaa
