/- Several texts in one: Dn0, DnRun, Dn. -/
import Derived.Test.YtmilcpejchjleaaMdl
import Derived.Test.YtmilcpejchjleaaMkp
import Derived.Test.YtmilcpejchjleaaRp
import Derived.Test.YtmilcpejchjleaaMez
import Derived.Test.YtmilcpejchjleaaFx

/- Names in a record's data, written out: words, and what the heads of the loops say. -/
namespace Go.Proofs.Ytmilcpejchjleaa
open Go.RowKit
set_option linter.unusedSimpArgs false
set_option linter.unusedVariables false

/-- bytes that are read, in a row of the walk's own -/
def kRbo : Inl := fun g xs L nx =>
  if g = 124 then
    match xs with
    | [.ptr id 0 0, .val (.int .i64 n)] =>
      match hp L id with
      | some ⟨146, 3, true, false, .rows [[.bytes b, .val (.int .i64 a), .val (.int .i64 e)]]⟩ =>
        if id < nx then some (.sl nx 0 n.toNat none, (id, rdr b (rdA b a.toNat e n.toNat) (rdE b a.toNat e n.toNat)) :: (nx, rbO (rdB b a.toNat e n.toNat)) :: L.filter fun p => ![id].contains p.1, nx + 1, [b.length ≤ 1000000, a.toNat ≤ b.length, 0 ≤ n, n ≤ 1000000, 0 ≤ a])
        else none
      | _ => none
    | _ => none
  else none
theorem kRbo_ok : InlOk Try.prog kRbo := by
  intro g xs L nx v L' nx' q h1 hq
  unfold kRbo at h1
  split at h1
  · rename_i hg
    subst hg
    split at h1
    · rename_i id n
      split at h1
      · rename_i b a e hid
        split at h1
        · rename_i hlt
          simp only [Option.some.injEq, Prod.mk.injEq] at h1
          obtain ⟨rfl, rfl, rfl, rfl⟩ := h1
          simp only [List.forall_mem_cons, List.not_mem_nil, false_implies, implies_true, and_true] at hq
          obtain ⟨q1, q2, q3, q4, q5⟩ := hq
          have ea : ((a.toNat : Nat) : Int) = a := by omega
          have en : ((n.toNat : Nat) : Int) = n := by omega
          have hc := rb_own b a.toNat e n.toNat q1 q2 (by omega)
          refine ⟨?_, by omega⟩
          have := ACall.used (ids := [id]) (K := L) (nx := nx) (hc : ACall Try.prog _ _ _ [id].length _ _ 2)
            (by simp) (by simp [hlt]) (by simp) (fun m x hm => ?_)
          · simpa [renL, renH, renN, rdr, rbO, objOne, AObj.ren, AV.ren, sI, iI, en] using this
          · simp only [hp] at hm
            split at hm
            · rename_i e0
              injection hm with hm
              subst e0 hm
              refine ⟨by simp, ?_⟩
              have : (rdr b a.toNat e).ren (renN [id] nx) = rdr b a.toNat e := by simp [rdr, objOne, AObj.ren, renL, AV.ren, sI, iI]
              rw [this]
              simp only [renN, List.getD_cons_zero]
              rw [hid]
              simp [rdr, objOne, sI, iI, ea]
            · cases hm
        · cases h1
      · cases h1
    · cases h1
  · cases h1

/-- so many names: where the reader is then, what was wrong, what was written -/
def wrN (b : List UInt8) : Nat → Nat → Int → List UInt8 → Nat × Int × List UInt8
  | 0, a, e, acc => (a, e, acc)
  | k + 1, a, e, acc => wrN b k (nmA b a e) (nmE b a e) (if nmE b a e = 0 then acc ++ encL (nmL b a e) ++ [0] else acc)
def wrG (b : List UInt8) (ar : Nat) (er : Int) (tl en nm i a : Nat) (e : Int) (acc : List UInt8) : GoalX := { len := 65, tms := [(0, .ptr 0 0 0), (11, .ptr 1 0 0)], opn := [(3, sI tl), (4, sI en), (27, sI nm), (28, sI i), (12, .sl 2 0 acc.length none)], oob := [(0, rdr b ar er), (1, rdr b a e), (2, rbO acc)], k := 2 }
def wrE (b : List UInt8) (ar : Nat) (er : Int) (tl en a : Nat) (e : Int) (acc : List UInt8) : GoalX := { len := 65, tms := [(0, .ptr 0 0 0), (11, .ptr 1 0 0)], opn := [(3, sI tl), (4, sI en), (12, .sl 2 0 acc.length none)], oob := [(0, rdr b ar er), (1, rdr b a e), (2, rbO acc)], k := 2 }
def wrL (b : List UInt8) (ar : Nat) (er : Int) (tl en nm a : Nat) (e : Int) (acc : List UInt8) (ids : List Nat) (a' : Nat) (e' : Int) (acc' : List UInt8) : LoopX := { ids := ids, G := wrG b ar er tl en nm 0 a e acc, ex := .exit 0, E := wrE b ar er tl en a' e' acc' }
def kWn : Inl := orInl kRbo (orInl kRn (kPutN false))
theorem kWn_ok : InlOk Try.prog kWn := orInl_ok kRbo_ok (orInl_ok kRn_ok (kPutN_ok false))
end Go.Proofs.Ytmilcpejchjleaa

/- Names in a record's data, written out (runs). No condition. -/
namespace Go.Proofs.Ytmilcpejchjleaa
open Go.RowKit

set_option maxRecDepth 100000 in
theorem wr_ok (b : List UInt8) (ar : Nat) (er : Int) (tl : Nat) (en : Nat) (nm : Nat) (i : Nat) (a : Nat) (e : Int) (acc : List UInt8) : stepXS kWn [(140, { br := [(29, true), (36, true)], ob := [(5, 1), (7, 2)] })] Try.prog 140 4 (wrG b ar er tl en nm i a e acc) (wrG b ar er tl en nm (i + 1) (nmA b a e) (nmE b a e) (acc ++ encL (nmL b a e) ++ [(0 : UInt8)])) [1, 121] 1 [] =
   some (.normal,
   (decide ((↑i : Int) < (↑nm : Int)) = true) ::
   ((0 : Int) ≤ (↑a : Int)) ::
   (List.length b ≤ 1000000) ::
   ((nmE b a e == (0 : Int)) = true) ::
   (0 + List.length acc ≤ List.length acc) ::
   ((AV.view 1 (List.length (nmL b a e)) fun i => [AV.val (Value.string { data := List.toArray (List.getD (nmL b a e) i []) })]) = AV.view 1 (List.length (lsOf (AV.view 1 (List.length (nmL b a e)) fun i => [AV.val (Value.string { data := List.toArray (List.getD (nmL b a e) i []) })]))) fun i => [AV.val (Value.string { data := List.toArray (List.getD (lsOf (AV.view 1 (List.length (nmL b a e)) fun i => [AV.val (Value.string { data := List.toArray (List.getD (nmL b a e) i []) })])) i []) })]) ::
   (lsK (lsOf (AV.view 1 (List.length (nmL b a e)) fun i => [AV.val (Value.string { data := List.toArray (List.getD (nmL b a e) i []) })]))) ::
   (goodN (lsOf (AV.view 1 (List.length (nmL b a e)) fun i => [AV.val (Value.string { data := List.toArray (List.getD (nmL b a e) i []) })])) = true) ::
   (List.length (List.take (List.length acc) acc) ≤ 900000) ::
   (iI (↑tl : Int) = iI (↑tl : Int)) ::
   (iI (↑en : Int) = iI (↑en : Int)) ::
   (iI (↑nm : Int) = iI (↑nm : Int)) ::
   (iI (IntKind.wrap IntKind.i64 ((↑i : Int) + (1 : Int))) = iI (↑(i + 1) : Int)) ::
   (AV.sl 121 0 (List.length (List.take (List.length acc) acc ++ encL (lsOf (AV.view 1 (List.length (nmL b a e)) fun i => [AV.val (Value.string { data := List.toArray (List.getD (nmL b a e) i []) })]))) + 1) none = AV.sl 121 0 (List.length (acc ++ encL (nmL b a e) ++ [(0 : UInt8)])) none) ::
   (SameO (some (objOne 146 [AV.bytes b, iI (↑ar : Int), iI er])) (objOne 146 [AV.bytes b, iI (↑ar : Int), iI er])) ::
   (SameO (some (objOne 146 [AV.bytes b, iI (↑(nmA b a e) : Int), iI (nmE b a e)])) (objOne 146 [AV.bytes b, iI (↑(nmA b a e) : Int), iI (nmE b a e)])) ::
   (SameO (some { t := 5, sz := 1, exact := false, fz := false, body := Body.bytes (List.take (List.length acc) acc ++ encL (lsOf (AV.view 1 (List.length (nmL b a e)) fun i => [AV.val (Value.string { data := List.toArray (List.getD (nmL b a e) i []) })])) ++ [(0 : UInt8)]) }) { t := 5, sz := 1, exact := false, fz := false, body := Body.bytes (acc ++ encL (nmL b a e) ++ [(0 : UInt8)]) }) :: []) := by kernel_rfl

set_option maxRecDepth 100000 in
theorem wr_bad (b : List UInt8) (ar : Nat) (er : Int) (tl : Nat) (en : Nat) (nm : Nat) (i : Nat) (a : Nat) (e : Int) (acc : List UInt8) : stepXS kWn [(140, { br := [(29, true), (36, false)], ob := [(5, 1)] })] Try.prog 140 4 (wrG b ar er tl en nm i a e acc) (wrG b ar er tl en nm (i + 1) (nmA b a e) (nmE b a e) acc) [1, 2] 1 [] =
   some (.normal,
   (decide ((↑i : Int) < (↑nm : Int)) = true) ::
   ((0 : Int) ≤ (↑a : Int)) ::
   (List.length b ≤ 1000000) ::
   ((nmE b a e == (0 : Int)) = false) ::
   (iI (↑tl : Int) = iI (↑tl : Int)) ::
   (iI (↑en : Int) = iI (↑en : Int)) ::
   (iI (↑nm : Int) = iI (↑nm : Int)) ::
   (iI (IntKind.wrap IntKind.i64 ((↑i : Int) + (1 : Int))) = iI (↑(i + 1) : Int)) ::
   (AV.sl 2 0 (List.length acc) none = AV.sl 2 0 (List.length acc) none) ::
   (SameO (some (objOne 146 [AV.bytes b, iI (↑ar : Int), iI er])) (objOne 146 [AV.bytes b, iI (↑ar : Int), iI er])) ::
   (SameO (some (objOne 146 [AV.bytes b, iI (↑(nmA b a e) : Int), iI (nmE b a e)])) (objOne 146 [AV.bytes b, iI (↑(nmA b a e) : Int), iI (nmE b a e)])) ::
   (SameO (some { t := 5, sz := 1, exact := false, fz := false, body := Body.bytes acc }) { t := 5, sz := 1, exact := false, fz := false, body := Body.bytes acc }) :: []) := by kernel_rfl

set_option maxRecDepth 100000 in
theorem wr_end (b : List UInt8) (ar : Nat) (er : Int) (tl : Nat) (en : Nat) (nm : Nat) (a : Nat) (e : Int) (acc : List UInt8) : stepXS kWn [(140, { br := [(29, false)] })] Try.prog 140 4 (wrG b ar er tl en nm nm a e acc) (wrE b ar er tl en a e acc) [1, 2] 1 [] =
   some (.exit 0,
   (decide ((↑nm : Int) < (↑nm : Int)) = false) ::
   (iI (↑tl : Int) = iI (↑tl : Int)) ::
   (iI (↑en : Int) = iI (↑en : Int)) ::
   (AV.sl 2 0 (List.length acc) none = AV.sl 2 0 (List.length acc) none) ::
   (SameO (some (objOne 146 [AV.bytes b, iI (↑ar : Int), iI er])) (objOne 146 [AV.bytes b, iI (↑ar : Int), iI er])) ::
   (SameO (some (objOne 146 [AV.bytes b, iI (↑a : Int), iI e])) (objOne 146 [AV.bytes b, iI (↑a : Int), iI e])) ::
   (SameO (some { t := 5, sz := 1, exact := false, fz := false, body := Body.bytes acc }) { t := 5, sz := 1, exact := false, fz := false, body := Body.bytes acc }) :: []) := by kernel_rfl

set_option maxRecDepth 100000 in
theorem wr_fok (b : List UInt8) (ar : Nat) (er : Int) (hd : Nat) (nm : Nat) (tl : Nat) (en : Nat) (a : Nat) (e : Int) (acc : List UInt8) : outXS kWn [(140, { op := [(10, 12, .br false)], gd := [(10, 6, false), (10, 7, false), (10, 8, false), (10, 9, false), (10, 10, false), (10, 11, false)], br := [(61, false)], ob := [(2, 2), (9, 3), (9, 4)] })] Try.prog 140 [AV.ptr 0 0 0, iI (↑hd : Int), iI (↑nm : Int), iI (↑tl : Int), iI (↑en : Int)] [(0, (objOne 146 [AV.bytes b, iI (↑ar : Int), iI er]))] 1 [0, 7] [(4, wrL b ar er tl en nm (rdA b ar (0 : Int) hd) (rdE b ar (0 : Int) hd) (rdB b ar (0 : Int) hd) [11, 17] a e acc)] =
   some (AV.sl 7 0 (List.length acc + tl) none, [(0, (objOne 146 [AV.bytes b, iI (↑ar : Int), iI er])), (7, { t := 5, sz := 1, exact := false, fz := false, body := Body.bytes (acc ++ List.take tl (rdB b a e tl)) })], 25,
   (List.length b ≤ 1000000) ::
   (ar ≤ List.length b) ::
   ((0 : Int) ≤ (↑hd : Int)) ::
   ((↑hd : Int) ≤ (1000000 : Int)) ::
   ((0 : Int) ≤ (↑ar : Int)) ::
   (iI (↑tl : Int) = iI (↑tl : Int)) ::
   (iI (↑en : Int) = iI (↑en : Int)) ::
   (iI (↑nm : Int) = iI (↑nm : Int)) ::
   (iI (0 : Int) = iI (0 : Int)) ::
   (AV.sl 17 0 hd none = AV.sl 17 0 (List.length (rdB b ar (0 : Int) hd)) none) ::
   (SameO (some (objOne 146 [AV.bytes b, iI (↑ar : Int), iI er])) (objOne 146 [AV.bytes b, iI (↑ar : Int), iI er])) ::
   (SameO (some (objOne 146 [AV.bytes b, iI (↑(rdA b ar (0 : Int) hd) : Int), iI (rdE b ar (0 : Int) hd)])) (objOne 146 [AV.bytes b, iI (↑(rdA b ar (0 : Int) hd) : Int), iI (rdE b ar (0 : Int) hd)])) ::
   (SameO (some { t := 5, sz := 1, exact := false, fz := false, body := Body.bytes (rdB b ar (0 : Int) hd) }) { t := 5, sz := 1, exact := false, fz := false, body := Body.bytes (rdB b ar (0 : Int) hd) }) ::
   (EvXL Try.prog 1 (loopAt Try.prog 140 4) (GoalX.st (LoopX.G (wrL b ar er tl en nm (rdA b ar (0 : Int) hd) (rdE b ar (0 : Int) hd) (rdB b ar (0 : Int) hd) [11, 17] a e acc)) 1) (LoopX.ex (wrL b ar er tl en nm (rdA b ar (0 : Int) hd) (rdE b ar (0 : Int) hd) (rdB b ar (0 : Int) hd) [11, 17] a e acc)) (GoalX.st (LoopX.E (wrL b ar er tl en nm (rdA b ar (0 : Int) hd) (rdE b ar (0 : Int) hd) (rdB b ar (0 : Int) hd) [11, 17] a e acc)) 1)) ::
   (List.length b ≤ 1000000) ::
   (a ≤ List.length b) ::
   ((0 : Int) ≤ (↑tl : Int)) ::
   ((↑tl : Int) ≤ (1000000 : Int)) ::
   ((0 : Int) ≤ (↑a : Int)) ::
   (0 + tl ≤ List.length (rdB b a e tl)) ::
   (List.length acc = List.length acc ∧ List.length acc + tl ≤ 1000000000) ::
   rp 7 ((rdE b a e tl != (0 : Int)) = false) (
   (((↑(rdA b a e tl) : Int) != (↑en : Int)) = false) :: [])) := by kernel_rfl

set_option maxRecDepth 100000 in
theorem wr_fe (b : List UInt8) (ar : Nat) (er : Int) (hd : Nat) (nm : Nat) (tl : Nat) (en : Nat) (a : Nat) (e : Int) (acc : List UInt8) : outXS kWn [(95, { br := [(8, true)] }),
   (140, { op := [(10, 12, .br true)], gd := [(10, 6, true), (10, 7, true), (10, 8, true), (10, 9, true), (10, 10, true), (10, 11, true)], ob := [(2, 2), (9, 3), (9, 4), (11, 1)] })] Try.prog 140 [AV.ptr 0 0 0, iI (↑hd : Int), iI (↑nm : Int), iI (↑tl : Int), iI (↑en : Int)] [(0, (objOne 146 [AV.bytes b, iI (↑ar : Int), iI er]))] 1 [0] [(4, wrL b ar er tl en nm (rdA b ar (0 : Int) hd) (rdE b ar (0 : Int) hd) (rdB b ar (0 : Int) hd) [11, 17] a e acc)] =
   some (AV.val (Value.slice none 0 0), [(0, (objOne 146 [AV.bytes b, iI (↑ar : Int), iI (4 : Int)]))], 36,
   (List.length b ≤ 1000000) ::
   (ar ≤ List.length b) ::
   ((0 : Int) ≤ (↑hd : Int)) ::
   ((↑hd : Int) ≤ (1000000 : Int)) ::
   ((0 : Int) ≤ (↑ar : Int)) ::
   (iI (↑tl : Int) = iI (↑tl : Int)) ::
   (iI (↑en : Int) = iI (↑en : Int)) ::
   (iI (↑nm : Int) = iI (↑nm : Int)) ::
   (iI (0 : Int) = iI (0 : Int)) ::
   (AV.sl 17 0 hd none = AV.sl 17 0 (List.length (rdB b ar (0 : Int) hd)) none) ::
   (SameO (some (objOne 146 [AV.bytes b, iI (↑ar : Int), iI er])) (objOne 146 [AV.bytes b, iI (↑ar : Int), iI er])) ::
   (SameO (some (objOne 146 [AV.bytes b, iI (↑(rdA b ar (0 : Int) hd) : Int), iI (rdE b ar (0 : Int) hd)])) (objOne 146 [AV.bytes b, iI (↑(rdA b ar (0 : Int) hd) : Int), iI (rdE b ar (0 : Int) hd)])) ::
   (SameO (some { t := 5, sz := 1, exact := false, fz := false, body := Body.bytes (rdB b ar (0 : Int) hd) }) { t := 5, sz := 1, exact := false, fz := false, body := Body.bytes (rdB b ar (0 : Int) hd) }) ::
   (EvXL Try.prog 1 (loopAt Try.prog 140 4) (GoalX.st (LoopX.G (wrL b ar er tl en nm (rdA b ar (0 : Int) hd) (rdE b ar (0 : Int) hd) (rdB b ar (0 : Int) hd) [11, 17] a e acc)) 1) (LoopX.ex (wrL b ar er tl en nm (rdA b ar (0 : Int) hd) (rdE b ar (0 : Int) hd) (rdB b ar (0 : Int) hd) [11, 17] a e acc)) (GoalX.st (LoopX.E (wrL b ar er tl en nm (rdA b ar (0 : Int) hd) (rdE b ar (0 : Int) hd) (rdB b ar (0 : Int) hd) [11, 17] a e acc)) 1)) ::
   (List.length b ≤ 1000000) ::
   (a ≤ List.length b) ::
   ((0 : Int) ≤ (↑tl : Int)) ::
   ((↑tl : Int) ≤ (1000000 : Int)) ::
   ((0 : Int) ≤ (↑a : Int)) ::
   (0 + tl ≤ List.length (rdB b a e tl)) ::
   (List.length acc = List.length acc ∧ List.length acc + tl ≤ 1000000000) ::
   rp 7 ((rdE b a e tl != (0 : Int)) = true) (
   ((er == (0 : Int)) = true) :: [])) := by kernel_rfl

set_option maxRecDepth 100000 in
theorem wr_fat (b : List UInt8) (ar : Nat) (er : Int) (hd : Nat) (nm : Nat) (tl : Nat) (en : Nat) (a : Nat) (e : Int) (acc : List UInt8) : outXS kWn [(95, { br := [(8, true)] }),
   (140, { op := [(10, 12, .br false)], gd := [(10, 6, false), (10, 7, false), (10, 8, false), (10, 9, false), (10, 10, false), (10, 11, false)], br := [(61, true)], ob := [(2, 2), (9, 3), (9, 4), (11, 1)] })] Try.prog 140 [AV.ptr 0 0 0, iI (↑hd : Int), iI (↑nm : Int), iI (↑tl : Int), iI (↑en : Int)] [(0, (objOne 146 [AV.bytes b, iI (↑ar : Int), iI er]))] 1 [0] [(4, wrL b ar er tl en nm (rdA b ar (0 : Int) hd) (rdE b ar (0 : Int) hd) (rdB b ar (0 : Int) hd) [11, 17] a e acc)] =
   some (AV.val (Value.slice none 0 0), [(0, (objOne 146 [AV.bytes b, iI (↑ar : Int), iI (4 : Int)]))], 36,
   (List.length b ≤ 1000000) ::
   (ar ≤ List.length b) ::
   ((0 : Int) ≤ (↑hd : Int)) ::
   ((↑hd : Int) ≤ (1000000 : Int)) ::
   ((0 : Int) ≤ (↑ar : Int)) ::
   (iI (↑tl : Int) = iI (↑tl : Int)) ::
   (iI (↑en : Int) = iI (↑en : Int)) ::
   (iI (↑nm : Int) = iI (↑nm : Int)) ::
   (iI (0 : Int) = iI (0 : Int)) ::
   (AV.sl 17 0 hd none = AV.sl 17 0 (List.length (rdB b ar (0 : Int) hd)) none) ::
   (SameO (some (objOne 146 [AV.bytes b, iI (↑ar : Int), iI er])) (objOne 146 [AV.bytes b, iI (↑ar : Int), iI er])) ::
   (SameO (some (objOne 146 [AV.bytes b, iI (↑(rdA b ar (0 : Int) hd) : Int), iI (rdE b ar (0 : Int) hd)])) (objOne 146 [AV.bytes b, iI (↑(rdA b ar (0 : Int) hd) : Int), iI (rdE b ar (0 : Int) hd)])) ::
   (SameO (some { t := 5, sz := 1, exact := false, fz := false, body := Body.bytes (rdB b ar (0 : Int) hd) }) { t := 5, sz := 1, exact := false, fz := false, body := Body.bytes (rdB b ar (0 : Int) hd) }) ::
   (EvXL Try.prog 1 (loopAt Try.prog 140 4) (GoalX.st (LoopX.G (wrL b ar er tl en nm (rdA b ar (0 : Int) hd) (rdE b ar (0 : Int) hd) (rdB b ar (0 : Int) hd) [11, 17] a e acc)) 1) (LoopX.ex (wrL b ar er tl en nm (rdA b ar (0 : Int) hd) (rdE b ar (0 : Int) hd) (rdB b ar (0 : Int) hd) [11, 17] a e acc)) (GoalX.st (LoopX.E (wrL b ar er tl en nm (rdA b ar (0 : Int) hd) (rdE b ar (0 : Int) hd) (rdB b ar (0 : Int) hd) [11, 17] a e acc)) 1)) ::
   (List.length b ≤ 1000000) ::
   (a ≤ List.length b) ::
   ((0 : Int) ≤ (↑tl : Int)) ::
   ((↑tl : Int) ≤ (1000000 : Int)) ::
   ((0 : Int) ≤ (↑a : Int)) ::
   (0 + tl ≤ List.length (rdB b a e tl)) ::
   (List.length acc = List.length acc ∧ List.length acc + tl ≤ 1000000000) ::
   rp 7 ((rdE b a e tl != (0 : Int)) = false) (
   (((↑(rdA b a e tl) : Int) != (↑en : Int)) = true) ::
   ((er == (0 : Int)) = true) :: [])) := by kernel_rfl
end Go.Proofs.Ytmilcpejchjleaa

/- Names in a record's data, written out: what is yielded; known. -/
namespace Go.Proofs.Ytmilcpejchjleaa
open Go.RowKit
set_option linter.unusedSimpArgs false
set_option linter.unusedVariables false

theorem goodN_lsK {ls : List (List UInt8)} (h : goodN ls = true) : lsK ls := by
  have h1 := goodF_enc 1 ls h (by decide)
  have h2 := goodF_count 1 ls h
  refine ⟨?_, fun i => ?_⟩
  · rcases h2 with h2 | rfl
    · omega
    · exact Nat.zero_le _
  · by_cases hi : i < ls.length
    · rw [List.getD_eq_getElem?_getD, List.getElem?_eq_getElem hi]
      have := h1.2 _ (List.getElem_mem hi)
      simp only [Option.getD_some]
      omega
    · rw [List.getD_eq_getElem?_getD, List.getElem?_eq_none (by omega)]
      exact Nat.zero_le _

theorem wrN_le (b : List UInt8) : ∀ (k a : Nat) (e : Int) (acc : List UInt8), a ≤ b.length → (wrN b k a e acc).1 ≤ b.length
  | 0, a, e, acc, h => h
  | k + 1, a, e, acc, h => wrN_le b k _ _ _ (nmA_le h)
theorem wrN_len (b : List UInt8) : ∀ (k a : Nat) (e : Int) (acc : List UInt8), (wrN b k a e acc).2.2.length ≤ acc.length + 255 * k
  | 0, a, e, acc => Nat.le_refl _
  | k + 1, a, e, acc => by
    have := wrN_len b k (nmA b a e) (nmE b a e) (if nmE b a e = 0 then acc ++ encL (nmL b a e) ++ [0] else acc)
    have h2 := encL_good (nmL_good b a e)
    show (wrN b k (nmA b a e) (nmE b a e) (if nmE b a e = 0 then acc ++ encL (nmL b a e) ++ [0] else acc)).2.2.length ≤ _
    split at this
    · rename_i c
      rw [if_pos c]
      simp at this ⊢
      omega
    · rename_i c
      rw [if_neg c]
      omega

theorem wr_loop (b : List UInt8) (ar : Nat) (er : Int) (tl en nm : Nat) (hb : b.length ≤ 1000000) : ∀ (k i a : Nat) (e : Int) (acc : List UInt8), i + k = nm → nm ≤ 1000 → a ≤ b.length → acc.length + 255 * k ≤ 900000 →
    EvXL Try.prog 1 (loopAt Try.prog 140 4) ((wrG b ar er tl en nm i a e acc).st 1) (.exit 0) ((wrE b ar er tl en (wrN b k a e acc).1 (wrN b k a e acc).2.1 (wrN b k a e acc).2.2).st 1)
  | 0, i, a, e, acc, hk, hn, ha, hl => by
    obtain rfl : i = nm := by omega
    exact EvXL.last (stepXS_ok kWn_ok (wr_end b ar er tl en i a e acc) (by
      repeat' (first | exact allNil | refine allCons ?_ ?_ | (with_reducible refine allRp _ ?_ ?_))
      all_goals first | (with_reducible rfl) | exact decide_eq_false (by omega) | exact rfl)) (by simp)
  | k + 1, i, a, e, acc, hk, hn, ha, hl => by
    have en' := lsOf_vS (nmL b a e)
    have hg := nmL_good b a e
    have hK := goodN_lsK hg
    have hE := encL_good hg
    unfold vS sStr at en'
    by_cases he : nmE b a e = 0
    · have hs : EvX Try.prog 1 (loopAt Try.prog 140 4) ((wrG b ar er tl en nm i a e acc).st 1) .normal ((wrG b ar er tl en nm (i + 1) (nmA b a e) (nmE b a e) (acc ++ encL (nmL b a e) ++ [0])).st 1) := stepXS_ok kWn_ok (wr_ok b ar er tl en nm i a e acc) (by
        simp only [en', List.take_length]
        repeat' (first | exact allNil | refine allCons ?_ ?_ | (with_reducible refine allRp _ ?_ ?_))
        all_goals first | (with_reducible rfl) | exact True.intro | exact decide_eq_true (by omega) | exact sI_succ i (by omega) | exact hK | exact hg | exact beq_iff_eq.2 he | omega | (rw [List.length_append (bs := [0])]; rfl) | (simp; done) | exact rfl)
      have := wr_loop b ar er tl en nm hb k (i + 1) (nmA b a e) (nmE b a e) (acc ++ encL (nmL b a e) ++ [0]) (by omega) hn (nmA_le ha) (by simp; omega)
      have e1 : wrN b (k + 1) a e acc = wrN b k (nmA b a e) (nmE b a e) (acc ++ encL (nmL b a e) ++ [0]) := by
        show wrN b k (nmA b a e) (nmE b a e) (if nmE b a e = 0 then acc ++ encL (nmL b a e) ++ [0] else acc) = _
        rw [if_pos he]
      rw [e1]
      exact EvXL.step hs this
    · have hs : EvX Try.prog 1 (loopAt Try.prog 140 4) ((wrG b ar er tl en nm i a e acc).st 1) .normal ((wrG b ar er tl en nm (i + 1) (nmA b a e) (nmE b a e) acc).st 1) := stepXS_ok kWn_ok (wr_bad b ar er tl en nm i a e acc) (by
        repeat' (first | exact allNil | refine allCons ?_ ?_ | (with_reducible refine allRp _ ?_ ?_))
        all_goals first | (with_reducible rfl) | exact True.intro | exact decide_eq_true (by omega) | exact sI_succ i (by omega) | exact beq_eq_false_iff_ne.2 he | omega | exact rfl)
      have := wr_loop b ar er tl en nm hb k (i + 1) (nmA b a e) (nmE b a e) acc (by omega) hn (nmA_le ha) (by omega)
      have e1 : wrN b (k + 1) a e acc = wrN b k (nmA b a e) (nmE b a e) acc := by
        show wrN b k (nmA b a e) (nmE b a e) (if nmE b a e = 0 then acc ++ encL (nmL b a e) ++ [0] else acc) = _
        rw [if_neg he]
      rw [e1]
      exact EvXL.step hs this

/-- what is left of the data, written out: is it all there? -/
def wrX (b : List UInt8) (a hd nm : Nat) : Nat × Int × List UInt8 := wrN b nm (rdA b a 0 hd) (rdE b a 0 hd) (rdB b a 0 hd)
def wrOk (b : List UInt8) (a hd nm tl en : Nat) : Bool := decide (rdE b (wrX b a hd nm).1 (wrX b a hd nm).2.1 tl = 0) && decide (rdA b (wrX b a hd nm).1 (wrX b a hd nm).2.1 tl = en)
def wrB (b : List UInt8) (a hd nm tl en : Nat) : List UInt8 := if wrOk b a hd nm tl en = true then (wrX b a hd nm).2.2 ++ rdB b (wrX b a hd nm).1 (wrX b a hd nm).2.1 tl else []
def wrEr (b : List UInt8) (a hd nm tl en : Nat) : Int := if wrOk b a hd nm tl en = true then 0 else 4

theorem nil_B {P : Program} {g : FuncId} {xs : List AV} {L L1 : List (Nat × AObj)} {nx n1 : Nat} (h : ACall P g xs L nx nilS L1 n1) : ACall P g xs L nx (.bytes []) L1 n1 := by
  refine h.told (L2 := L1) [] (by simp) (fun id x hx => ⟨by simp, hx⟩) fun E w u hs hr => ?_
  rw [hr.val_inv]
  exact .bytes rfl (Nat.le_refl _) (Nat.zero_le _) (fun h => absurd h (by simp))

theorem wr_call (b : List UInt8) (ar hd nm tl en : Nat) (hb : b.length ≤ 1000000) (ha : ar ≤ b.length) (hh : hd ≤ 1000) (hn : nm ≤ 1000) (ht : tl ≤ 1000) (he : en ≤ 1000000) :
    ACall Try.prog 140 [.ptr 0 0 0, sI hd, sI nm, sI tl, sI en] [(0, rdr b ar 0)] 1 (.bytes (wrB b ar hd nm tl en)) [(0, rdr b ar (wrEr b ar hd nm tl en))] 200 := by
  have hl := wr_loop b ar 0 tl en nm hb nm 0 (rdA b ar 0 hd) (rdE b ar 0 hd) (rdB b ar 0 hd) (by omega) hn (rdA_le ha) (by rw [rdB_len]; omega)
  have hA : (wrX b ar hd nm).1 ≤ b.length := wrN_le b nm _ _ _ (rdA_le ha)
  have hL : (wrX b ar hd nm).2.2.length ≤ 300000 := by
    have := wrN_len b nm (rdA b ar 0 hd) (rdE b ar 0 hd) (rdB b ar 0 hd)
    rw [rdB_len] at this
    unfold wrX
    omega
  have e0 : wrN b nm (rdA b ar 0 hd) (rdE b ar 0 hd) (rdB b ar 0 hd) = wrX b ar hd nm := rfl
  rw [e0] at hl
  unfold wrB wrEr wrOk
  generalize wrX b ar hd nm = X at *
  obtain ⟨a, e, acc⟩ := X
  simp only at hl hA hL ⊢
  have hr := rdB_len b a e tl
  have hr0 := rdB_len b ar 0 hd
  by_cases h1 : rdE b a e tl = 0
  · by_cases h2 : rdA b a e tl = en
    · rw [if_pos (by rw [decide_eq_true h1, decide_eq_true h2]; rfl), if_pos (by rw [decide_eq_true h1, decide_eq_true h2]; rfl)]
      have h := outXS_ok kWn_ok (wr_fok b ar 0 hd nm tl en a e acc) (by
        repeat' (first | exact allNil | refine allCons ?_ ?_ | (with_reducible refine allRp _ ?_ ?_))
        all_goals first | (with_reducible rfl) | exact True.intro | omega | exact hl | (rw [hr0]) | exact bne_eq_false_iff_eq.2 h1 | (rw [h2]; exact bne_eq_false_iff_eq.2 rfl) | exact rfl)
      refine (h.tellB (k := 7) (bs := acc ++ rdB b a e tl) ?_ (by rw [List.length_append, hr]) fun id x hid => ?_).upTo (by decide)
      · show some _ = some _
        rw [show List.take tl (rdB b a e tl) = rdB b a e tl from List.take_of_length_le (by omega)]; rfl
      · simp only [hp] at hid
        split at hid
        · rename_i hi
          subst hi
          exact ⟨by decide, hid⟩
        · cases hid
    · rw [if_neg (by rw [decide_eq_true h1, decide_eq_false h2]; decide), if_neg (by rw [decide_eq_true h1, decide_eq_false h2]; decide)]
      have h := outXS_ok kWn_ok (wr_fat b ar 0 hd nm tl en a e acc) (by
        repeat' (first | exact allNil | refine allCons ?_ ?_ | (with_reducible refine allRp _ ?_ ?_))
        all_goals first | (with_reducible rfl) | exact True.intro | omega | exact hl | (rw [hr0]) | exact bne_eq_false_iff_eq.2 h1 | (exact bne_iff_ne.2 (by omega)) | exact rfl)
      exact (nil_B h).upTo (by decide)
  · rw [if_neg (by rw [decide_eq_false h1]; simp), if_neg (by rw [decide_eq_false h1]; simp)]
    have h := outXS_ok kWn_ok (wr_fe b ar 0 hd nm tl en a e acc) (by
      repeat' (first | exact allNil | refine allCons ?_ ?_ | (with_reducible refine allRp _ ?_ ?_))
      all_goals first | (with_reducible rfl) | exact True.intro | omega | exact hl | (rw [hr0]) | exact bne_iff_ne.2 h1 | exact rfl)
    exact (nil_B h).upTo (by decide)

def kWr : Inl := kMeth 140 199 fun b a e ys =>
  match ys with
  | [.val (.int .i64 hd), .val (.int .i64 nm), .val (.int .i64 tl), .val (.int .i64 en)] => some (.bytes (wrB b a hd.toNat nm.toNat tl.toNat en.toNat), a, wrEr b a hd.toNat nm.toNat tl.toNat en.toNat, [b.length ≤ 1000000, a ≤ b.length, 0 ≤ hd ∧ hd ≤ 1000, 0 ≤ nm ∧ nm ≤ 1000, 0 ≤ tl ∧ tl ≤ 1000, 0 ≤ en ∧ en ≤ 1000000, e = 0])
  | _ => none
theorem kWr_ok : InlOk Try.prog kWr := kMeth_ok fun b a e ys v a' e' q hF hq => by
  split at hF
  · rename_i hd nm tl en
    simp only [Option.some.injEq, Prod.mk.injEq] at hF
    obtain ⟨rfl, rfl, rfl, rfl⟩ := hF
    simp only [List.forall_mem_cons, List.not_mem_nil, false_implies, implies_true, and_true] at hq
    obtain ⟨q1, q2, q3, q4, q5, q6, rfl⟩ := hq
    refine ⟨fun r => rfl, fun r => rfl, 200, by decide, ?_⟩
    have := wr_call b a hd.toNat nm.toNat tl.toNat en.toNat q1 q2 (by omega) (by omega) (by omega) (by omega)
    have e1 : ((hd.toNat : Nat) : Int) = hd := by omega
    have e2 : ((nm.toNat : Nat) : Int) = nm := by omega
    have e3 : ((tl.toNat : Nat) : Int) = tl := by omega
    have e4 : ((en.toNat : Nat) : Int) = en := by omega
    unfold sI at this
    rwa [e1, e2, e3, e4] at this
  · cases hF
def kRd4 : Inl := orInl kWr kRd3
theorem kRd4_ok : InlOk Try.prog kRd4 := orInl_ok kWr_ok kRd3_ok
end Go.Proofs.Ytmilcpejchjleaa
