/- Several texts in one: NbaRun, Nba. -/
import Derived.Test.YtmilcpejchjleaaMpa

/- A name's text is read back as it: the law, reckoned. -/
namespace Go.Proofs.Ytmilcpejchjleaa
open Go.RowKit

set_option maxRecDepth 100000 in
theorem nba_long (ls : List (List UInt8)) : outXS kB0 [(14, { op := [(3, 6, .br true)], gd := [(3, 3, true), (3, 4, true), (3, 5, true)] })] Try.prog 14 [AV.view (1 : Nat) (List.length ls) fun i => [AV.val (Value.string { data := List.toArray (List.getD ls i []) })]] [] 0 [] [] =
   some (AV.val (Value.bool true), [], 11,
   [(AV.view (1 : Nat) (List.length ls) fun i => [AV.val (Value.string { data := List.toArray (List.getD ls i []) })]) = AV.view (1 : Nat) (List.length (lsOf (AV.view (1 : Nat) (List.length ls) fun i => [AV.val (Value.string { data := List.toArray (List.getD ls i []) })]))) fun i => [AV.val (Value.string { data := List.toArray (List.getD (lsOf (AV.view (1 : Nat) (List.length ls) fun i => [AV.val (Value.string { data := List.toArray (List.getD ls i []) })])) i []) })],
   True,
   longN (lsOf (AV.view (1 : Nat) (List.length ls) fun i => [AV.val (Value.string { data := List.toArray (List.getD ls i []) })])) = true,
   longN (lsOf (AV.view (1 : Nat) (List.length ls) fun i => [AV.val (Value.string { data := List.toArray (List.getD ls i []) })])) = true,
   longN (lsOf (AV.view (1 : Nat) (List.length ls) fun i => [AV.val (Value.string { data := List.toArray (List.getD ls i []) })])) = true,
   longN (lsOf (AV.view (1 : Nat) (List.length ls) fun i => [AV.val (Value.string { data := List.toArray (List.getD ls i []) })])) = true]) := by kernel_rfl

set_option maxRecDepth 100000 in
theorem nba_bad (ls : List (List UInt8)) : outXS kB0 [(14, { op := [(3, 6, .br false)], gd := [(3, 3, false), (3, 4, false), (3, 5, false)], br := [(13, true)] })] Try.prog 14 [AV.view (1 : Nat) (List.length ls) fun i => [AV.val (Value.string { data := List.toArray (List.getD ls i []) })]] [] 0 [] [] =
   some (AV.val (Value.bool true), [], 11,
   [(AV.view (1 : Nat) (List.length ls) fun i => [AV.val (Value.string { data := List.toArray (List.getD ls i []) })]) = AV.view (1 : Nat) (List.length (lsOf (AV.view (1 : Nat) (List.length ls) fun i => [AV.val (Value.string { data := List.toArray (List.getD ls i []) })]))) fun i => [AV.val (Value.string { data := List.toArray (List.getD (lsOf (AV.view (1 : Nat) (List.length ls) fun i => [AV.val (Value.string { data := List.toArray (List.getD ls i []) })])) i []) })],
   True,
   longN (lsOf (AV.view (1 : Nat) (List.length ls) fun i => [AV.val (Value.string { data := List.toArray (List.getD ls i []) })])) = false,
   longN (lsOf (AV.view (1 : Nat) (List.length ls) fun i => [AV.val (Value.string { data := List.toArray (List.getD ls i []) })])) = false,
   (AV.view (1 : Nat) (List.length ls) fun i => [AV.val (Value.string { data := List.toArray (List.getD ls i []) })]) = AV.view (1 : Nat) (List.length (lsOf (AV.view (1 : Nat) (List.length ls) fun i => [AV.val (Value.string { data := List.toArray (List.getD ls i []) })]))) fun i => [AV.val (Value.string { data := List.toArray (List.getD (lsOf (AV.view (1 : Nat) (List.length ls) fun i => [AV.val (Value.string { data := List.toArray (List.getD ls i []) })])) i []) })],
   lsK (lsOf (AV.view (1 : Nat) (List.length ls) fun i => [AV.val (Value.string { data := List.toArray (List.getD ls i []) })])),
   longN (lsOf (AV.view (1 : Nat) (List.length ls) fun i => [AV.val (Value.string { data := List.toArray (List.getD ls i []) })])) = false,
   longN (lsOf (AV.view (1 : Nat) (List.length ls) fun i => [AV.val (Value.string { data := List.toArray (List.getD ls i []) })])) = false,
   (!goodN (lsOf (AV.view (1 : Nat) (List.length ls) fun i => [AV.val (Value.string { data := List.toArray (List.getD ls i []) })]))) = true]) := by kernel_rfl

set_option maxRecDepth 100000 in
theorem nba_nil (ls : List (List UInt8)) : outXS kB0 [(14, { op := [(3, 6, .br false), (6, 11, .br true)], gd := [(3, 3, false), (3, 4, false), (3, 5, false), (6, 8, true), (6, 9, true), (6, 10, true)], br := [(13, false)] })] Try.prog 14 [AV.view (1 : Nat) (List.length ls) fun i => [AV.val (Value.string { data := List.toArray (List.getD ls i []) })]] [] 0 [] [] =
   some (AV.val (Value.bool (sameN (lsOf (AV.view (1 : Nat) (List.length ls) fun i => [AV.val (Value.string { data := List.toArray (List.getD ls i []) })])) [])), [], 64,
   [(AV.view (1 : Nat) (List.length ls) fun i => [AV.val (Value.string { data := List.toArray (List.getD ls i []) })]) = AV.view (1 : Nat) (List.length (lsOf (AV.view (1 : Nat) (List.length ls) fun i => [AV.val (Value.string { data := List.toArray (List.getD ls i []) })]))) fun i => [AV.val (Value.string { data := List.toArray (List.getD (lsOf (AV.view (1 : Nat) (List.length ls) fun i => [AV.val (Value.string { data := List.toArray (List.getD ls i []) })])) i []) })],
   True,
   longN (lsOf (AV.view (1 : Nat) (List.length ls) fun i => [AV.val (Value.string { data := List.toArray (List.getD ls i []) })])) = false,
   longN (lsOf (AV.view (1 : Nat) (List.length ls) fun i => [AV.val (Value.string { data := List.toArray (List.getD ls i []) })])) = false,
   (AV.view (1 : Nat) (List.length ls) fun i => [AV.val (Value.string { data := List.toArray (List.getD ls i []) })]) = AV.view (1 : Nat) (List.length (lsOf (AV.view (1 : Nat) (List.length ls) fun i => [AV.val (Value.string { data := List.toArray (List.getD ls i []) })]))) fun i => [AV.val (Value.string { data := List.toArray (List.getD (lsOf (AV.view (1 : Nat) (List.length ls) fun i => [AV.val (Value.string { data := List.toArray (List.getD ls i []) })])) i []) })],
   lsK (lsOf (AV.view (1 : Nat) (List.length ls) fun i => [AV.val (Value.string { data := List.toArray (List.getD ls i []) })])),
   longN (lsOf (AV.view (1 : Nat) (List.length ls) fun i => [AV.val (Value.string { data := List.toArray (List.getD ls i []) })])) = false,
   longN (lsOf (AV.view (1 : Nat) (List.length ls) fun i => [AV.val (Value.string { data := List.toArray (List.getD ls i []) })])) = false,
   (!goodN (lsOf (AV.view (1 : Nat) (List.length ls) fun i => [AV.val (Value.string { data := List.toArray (List.getD ls i []) })]))) = false,
   (AV.view (1 : Nat) (List.length ls) fun i => [AV.val (Value.string { data := List.toArray (List.getD ls i []) })]) = AV.view (1 : Nat) (List.length (lsOf (AV.view (1 : Nat) (List.length ls) fun i => [AV.val (Value.string { data := List.toArray (List.getD ls i []) })]))) fun i => [AV.val (Value.string { data := List.toArray (List.getD (lsOf (AV.view (1 : Nat) (List.length ls) fun i => [AV.val (Value.string { data := List.toArray (List.getD ls i []) })])) i []) })],
   lsK (lsOf (AV.view (1 : Nat) (List.length ls) fun i => [AV.val (Value.string { data := List.toArray (List.getD ls i []) })])),
   AV.val (Value.string { data := List.toArray (textN (lsOf (AV.view (1 : Nat) (List.length ls) fun i => [AV.val (Value.string { data := List.toArray (List.getD ls i []) })]))) }) = AV.val (Value.string { data := List.toArray (strB [AV.val (Value.string { data := List.toArray (textN (lsOf (AV.view (1 : Nat) (List.length ls) fun i => [AV.val (Value.string { data := List.toArray (List.getD ls i []) })]))) })]) }),
   strB [AV.val (Value.string { data := List.toArray (textN (lsOf (AV.view (1 : Nat) (List.length ls) fun i => [AV.val (Value.string { data := List.toArray (List.getD ls i []) })]))) })] = [(46 : UInt8)],
   Value.slice none (0 : Nat) (0 : Nat) = Value.slice none (0 : Nat) (0 : Nat),
   (AV.view (1 : Nat) (List.length ls) fun i => [AV.val (Value.string { data := List.toArray (List.getD ls i []) })]) = AV.view (1 : Nat) (List.length (lsOf (AV.view (1 : Nat) (List.length ls) fun i => [AV.val (Value.string { data := List.toArray (List.getD ls i []) })]))) fun i => [AV.val (Value.string { data := List.toArray (List.getD (lsOf (AV.view (1 : Nat) (List.length ls) fun i => [AV.val (Value.string { data := List.toArray (List.getD ls i []) })])) i []) })],
   (0 : Nat) ≤ (1000000000 : Nat),
   decide ([] = lsOf (AV.view (1 : Nat) (List.length ls) fun i => [AV.val (Value.string { data := List.toArray (List.getD ls i []) })])) = true,
   decide ([] = lsOf (AV.view (1 : Nat) (List.length ls) fun i => [AV.val (Value.string { data := List.toArray (List.getD ls i []) })])) = true,
   decide ([] = lsOf (AV.view (1 : Nat) (List.length ls) fun i => [AV.val (Value.string { data := List.toArray (List.getD ls i []) })])) = true,
   (AV.view (1 : Nat) (List.length ls) fun i => [AV.val (Value.string { data := List.toArray (List.getD ls i []) })]) = AV.view (1 : Nat) (List.length (lsOf (AV.view (1 : Nat) (List.length ls) fun i => [AV.val (Value.string { data := List.toArray (List.getD ls i []) })]))) fun i => [AV.val (Value.string { data := List.toArray (List.getD (lsOf (AV.view (1 : Nat) (List.length ls) fun i => [AV.val (Value.string { data := List.toArray (List.getD ls i []) })])) i []) })],
   Value.slice none (0 : Nat) (0 : Nat) = Value.slice none (0 : Nat) (0 : Nat),
   lsK (lsOf (AV.view (1 : Nat) (List.length ls) fun i => [AV.val (Value.string { data := List.toArray (List.getD ls i []) })])),
   decide ([] = lsOf (AV.view (1 : Nat) (List.length ls) fun i => [AV.val (Value.string { data := List.toArray (List.getD ls i []) })])) = true]) := by kernel_rfl

set_option maxRecDepth 100000 in
theorem nba_ok (ls : List (List UInt8)) : outXS kB2 [(14, { op := [(3, 6, .br false), (6, 11, .br true)], gd := [(3, 3, false), (3, 4, false), (3, 5, false), (6, 8, true), (6, 9, true), (6, 10, true)], br := [(13, false)] })] Try.prog 14 [AV.view (1 : Nat) (List.length ls) fun i => [AV.val (Value.string { data := List.toArray (List.getD ls i []) })]] [] 0 [] [] =
   some (AV.val (Value.bool (sameN (lsOf (AV.view (1 : Nat) (List.length ls) fun i => [AV.val (Value.string { data := List.toArray (List.getD ls i []) })])) (txtL (List.take (List.length (labL (strB [AV.val (Value.string { data := List.toArray (textN (lsOf (AV.view (1 : Nat) (List.length ls) fun i => [AV.val (Value.string { data := List.toArray (List.getD ls i []) })]))) })]))) (rowsL (labL (strB [AV.val (Value.string { data := List.toArray (textN (lsOf (AV.view (1 : Nat) (List.length ls) fun i => [AV.val (Value.string { data := List.toArray (List.getD ls i []) })]))) })]))))))), [], 37,
   [(AV.view (1 : Nat) (List.length ls) fun i => [AV.val (Value.string { data := List.toArray (List.getD ls i []) })]) = AV.view (1 : Nat) (List.length (lsOf (AV.view (1 : Nat) (List.length ls) fun i => [AV.val (Value.string { data := List.toArray (List.getD ls i []) })]))) fun i => [AV.val (Value.string { data := List.toArray (List.getD (lsOf (AV.view (1 : Nat) (List.length ls) fun i => [AV.val (Value.string { data := List.toArray (List.getD ls i []) })])) i []) })],
   True,
   longN (lsOf (AV.view (1 : Nat) (List.length ls) fun i => [AV.val (Value.string { data := List.toArray (List.getD ls i []) })])) = false,
   longN (lsOf (AV.view (1 : Nat) (List.length ls) fun i => [AV.val (Value.string { data := List.toArray (List.getD ls i []) })])) = false,
   (AV.view (1 : Nat) (List.length ls) fun i => [AV.val (Value.string { data := List.toArray (List.getD ls i []) })]) = AV.view (1 : Nat) (List.length (lsOf (AV.view (1 : Nat) (List.length ls) fun i => [AV.val (Value.string { data := List.toArray (List.getD ls i []) })]))) fun i => [AV.val (Value.string { data := List.toArray (List.getD (lsOf (AV.view (1 : Nat) (List.length ls) fun i => [AV.val (Value.string { data := List.toArray (List.getD ls i []) })])) i []) })],
   lsK (lsOf (AV.view (1 : Nat) (List.length ls) fun i => [AV.val (Value.string { data := List.toArray (List.getD ls i []) })])),
   longN (lsOf (AV.view (1 : Nat) (List.length ls) fun i => [AV.val (Value.string { data := List.toArray (List.getD ls i []) })])) = false,
   longN (lsOf (AV.view (1 : Nat) (List.length ls) fun i => [AV.val (Value.string { data := List.toArray (List.getD ls i []) })])) = false,
   (!goodN (lsOf (AV.view (1 : Nat) (List.length ls) fun i => [AV.val (Value.string { data := List.toArray (List.getD ls i []) })]))) = false,
   (AV.view (1 : Nat) (List.length ls) fun i => [AV.val (Value.string { data := List.toArray (List.getD ls i []) })]) = AV.view (1 : Nat) (List.length (lsOf (AV.view (1 : Nat) (List.length ls) fun i => [AV.val (Value.string { data := List.toArray (List.getD ls i []) })]))) fun i => [AV.val (Value.string { data := List.toArray (List.getD (lsOf (AV.view (1 : Nat) (List.length ls) fun i => [AV.val (Value.string { data := List.toArray (List.getD ls i []) })])) i []) })],
   lsK (lsOf (AV.view (1 : Nat) (List.length ls) fun i => [AV.val (Value.string { data := List.toArray (List.getD ls i []) })])),
   AV.val (Value.string { data := List.toArray (textN (lsOf (AV.view (1 : Nat) (List.length ls) fun i => [AV.val (Value.string { data := List.toArray (List.getD ls i []) })]))) }) = AV.val (Value.string { data := List.toArray (strB [AV.val (Value.string { data := List.toArray (textN (lsOf (AV.view (1 : Nat) (List.length ls) fun i => [AV.val (Value.string { data := List.toArray (List.getD ls i []) })]))) })]) }),
   strB [AV.val (Value.string { data := List.toArray (textN (lsOf (AV.view (1 : Nat) (List.length ls) fun i => [AV.val (Value.string { data := List.toArray (List.getD ls i []) })]))) })] ≠ [(46 : UInt8)],
   List.length (strB [AV.val (Value.string { data := List.toArray (textN (lsOf (AV.view (1 : Nat) (List.length ls) fun i => [AV.val (Value.string { data := List.toArray (List.getD ls i []) })]))) })]) ≤ (900000 : Nat),
   parO (strB [AV.val (Value.string { data := List.toArray (textN (lsOf (AV.view (1 : Nat) (List.length ls) fun i => [AV.val (Value.string { data := List.toArray (List.getD ls i []) })]))) })]) = true,
   txtP (List.take (List.length (labL (strB [AV.val (Value.string { data := List.toArray (textN (lsOf (AV.view (1 : Nat) (List.length ls) fun i => [AV.val (Value.string { data := List.toArray (List.getD ls i []) })]))) })]))) (rowsL (labL (strB [AV.val (Value.string { data := List.toArray (textN (lsOf (AV.view (1 : Nat) (List.length ls) fun i => [AV.val (Value.string { data := List.toArray (List.getD ls i []) })]))) })])))) ∧ (1 : Nat) = (1 : Nat) ∧ (0 : Nat) + List.length (labL (strB [AV.val (Value.string { data := List.toArray (textN (lsOf (AV.view (1 : Nat) (List.length ls) fun i => [AV.val (Value.string { data := List.toArray (List.getD ls i []) })]))) })])) ≤ List.length (rowsL (labL (strB [AV.val (Value.string { data := List.toArray (textN (lsOf (AV.view (1 : Nat) (List.length ls) fun i => [AV.val (Value.string { data := List.toArray (List.getD ls i []) })]))) })]))),
   (AV.view (1 : Nat) (List.length ls) fun i => [AV.val (Value.string { data := List.toArray (List.getD ls i []) })]) = AV.view (1 : Nat) (List.length (lsOf (AV.view (1 : Nat) (List.length ls) fun i => [AV.val (Value.string { data := List.toArray (List.getD ls i []) })]))) fun i => [AV.val (Value.string { data := List.toArray (List.getD (lsOf (AV.view (1 : Nat) (List.length ls) fun i => [AV.val (Value.string { data := List.toArray (List.getD ls i []) })])) i []) })],
   List.length (txtL (List.take (List.length (labL (strB [AV.val (Value.string { data := List.toArray (textN (lsOf (AV.view (1 : Nat) (List.length ls) fun i => [AV.val (Value.string { data := List.toArray (List.getD ls i []) })]))) })]))) (rowsL (labL (strB [AV.val (Value.string { data := List.toArray (textN (lsOf (AV.view (1 : Nat) (List.length ls) fun i => [AV.val (Value.string { data := List.toArray (List.getD ls i []) })]))) })]))))) ≤ (1000000000 : Nat),
   decide (txtL (List.take (List.length (labL (strB [AV.val (Value.string { data := List.toArray (textN (lsOf (AV.view (1 : Nat) (List.length ls) fun i => [AV.val (Value.string { data := List.toArray (List.getD ls i []) })]))) })]))) (rowsL (labL (strB [AV.val (Value.string { data := List.toArray (textN (lsOf (AV.view (1 : Nat) (List.length ls) fun i => [AV.val (Value.string { data := List.toArray (List.getD ls i []) })]))) })])))) = lsOf (AV.view (1 : Nat) (List.length ls) fun i => [AV.val (Value.string { data := List.toArray (List.getD ls i []) })])) = true,
   decide (txtL (List.take (List.length (labL (strB [AV.val (Value.string { data := List.toArray (textN (lsOf (AV.view (1 : Nat) (List.length ls) fun i => [AV.val (Value.string { data := List.toArray (List.getD ls i []) })]))) })]))) (rowsL (labL (strB [AV.val (Value.string { data := List.toArray (textN (lsOf (AV.view (1 : Nat) (List.length ls) fun i => [AV.val (Value.string { data := List.toArray (List.getD ls i []) })]))) })])))) = lsOf (AV.view (1 : Nat) (List.length ls) fun i => [AV.val (Value.string { data := List.toArray (List.getD ls i []) })])) = true,
   decide (txtL (List.take (List.length (labL (strB [AV.val (Value.string { data := List.toArray (textN (lsOf (AV.view (1 : Nat) (List.length ls) fun i => [AV.val (Value.string { data := List.toArray (List.getD ls i []) })]))) })]))) (rowsL (labL (strB [AV.val (Value.string { data := List.toArray (textN (lsOf (AV.view (1 : Nat) (List.length ls) fun i => [AV.val (Value.string { data := List.toArray (List.getD ls i []) })]))) })])))) = lsOf (AV.view (1 : Nat) (List.length ls) fun i => [AV.val (Value.string { data := List.toArray (List.getD ls i []) })])) = true,
   (AV.view (1 : Nat) (List.length ls) fun i => [AV.val (Value.string { data := List.toArray (List.getD ls i []) })]) = AV.view (1 : Nat) (List.length (lsOf (AV.view (1 : Nat) (List.length ls) fun i => [AV.val (Value.string { data := List.toArray (List.getD ls i []) })]))) fun i => [AV.val (Value.string { data := List.toArray (List.getD (lsOf (AV.view (1 : Nat) (List.length ls) fun i => [AV.val (Value.string { data := List.toArray (List.getD ls i []) })])) i []) })],
   txtP (List.take (List.length (labL (strB [AV.val (Value.string { data := List.toArray (textN (lsOf (AV.view (1 : Nat) (List.length ls) fun i => [AV.val (Value.string { data := List.toArray (List.getD ls i []) })]))) })]))) (rowsL (labL (strB [AV.val (Value.string { data := List.toArray (textN (lsOf (AV.view (1 : Nat) (List.length ls) fun i => [AV.val (Value.string { data := List.toArray (List.getD ls i []) })]))) })])))) ∧ (1 : Nat) = (1 : Nat) ∧ (0 : Nat) + List.length (labL (strB [AV.val (Value.string { data := List.toArray (textN (lsOf (AV.view (1 : Nat) (List.length ls) fun i => [AV.val (Value.string { data := List.toArray (List.getD ls i []) })]))) })])) ≤ List.length (rowsL (labL (strB [AV.val (Value.string { data := List.toArray (textN (lsOf (AV.view (1 : Nat) (List.length ls) fun i => [AV.val (Value.string { data := List.toArray (List.getD ls i []) })]))) })]))),
   lsK (lsOf (AV.view (1 : Nat) (List.length ls) fun i => [AV.val (Value.string { data := List.toArray (List.getD ls i []) })])),
   decide (txtL (List.take (List.length (labL (strB [AV.val (Value.string { data := List.toArray (textN (lsOf (AV.view (1 : Nat) (List.length ls) fun i => [AV.val (Value.string { data := List.toArray (List.getD ls i []) })]))) })]))) (rowsL (labL (strB [AV.val (Value.string { data := List.toArray (textN (lsOf (AV.view (1 : Nat) (List.length ls) fun i => [AV.val (Value.string { data := List.toArray (List.getD ls i []) })]))) })])))) = lsOf (AV.view (1 : Nat) (List.length ls) fun i => [AV.val (Value.string { data := List.toArray (List.getD ls i []) })])) = true]) := by kernel_rfl
end Go.Proofs.Ytmilcpejchjleaa

/- A name's text is read back as it: the law NameBack answers true. -/
namespace Go.Proofs.Ytmilcpejchjleaa
open Go.RowKit
set_option linter.unusedSimpArgs false

theorem byB_3 (a b c : UInt8) (r : List UInt8) : byB (a :: b :: c :: r) = byB [a, b, c] ∧ byC (a :: b :: c :: r) = byC [a, b, c] := by
  constructor <;> simp [byB, byC, digN]
theorem esc_by : ∀ c : Fin 256, byB [UInt8.ofNat (48 + c.val / 100), UInt8.ofNat (48 + c.val / 10 % 10), UInt8.ofNat (48 + c.val % 10)] = true ∧ byC [UInt8.ofNat (48 + c.val / 100), UInt8.ofNat (48 + c.val / 10 % 10), UInt8.ofNat (48 + c.val % 10)] = c.val := by decide +kernel

theorem cutF_more : ∀ (k : Nat) (s b : List UInt8) (l : List (List UInt8)) (m : Nat), s.length ≤ k → cutF (k + m) s b l = cutF k s b l
  | k, [], b, l, m, _ => by rw [cutF_zero, cutF_zero]
  | 0, c :: r, b, l, m, h => by simp at h
  | k + 1, c :: r, b, l, m, h => by
    have hr : r.length ≤ k := by simpa using h
    have e : k + 1 + m = (k + m) + 1 := by omega
    rw [e, cutF, cutF]
    split
    · exact cutF_more k r [] _ m hr
    · split
      · split
        · exact cutF_more k _ _ _ m (by simp; omega)
        · rfl
      · exact cutF_more k r _ _ m hr
theorem cutF_fuel {k : Nat} {s b : List UInt8} {l : List (List UInt8)} (h : s.length ≤ k) : cutF k s b l = cutF s.length s b l := by
  obtain ⟨m, rfl⟩ : ∃ m, k = s.length + m := ⟨k - s.length, by omega⟩
  exact cutF_more _ s b l m (Nat.le_refl _)

theorem cut_esc1 (c : UInt8) (r b : List UInt8) (l : List (List UInt8)) : cutF (esc1 c ++ r).length (esc1 c ++ r) b l = cutF r.length r (b ++ [c]) l := by
  unfold esc1
  split
  · rename_i h
    have hc := c.toNat_lt
    obtain ⟨h1, h2⟩ := esc_by ⟨c.toNat, hc⟩
    simp only at h1 h2
    have e3 := byB_3 (UInt8.ofNat (48 + c.toNat / 100)) (UInt8.ofNat (48 + c.toNat / 10 % 10)) (UInt8.ofNat (48 + c.toNat % 10)) r
    simp only [List.cons_append, List.nil_append, List.length_cons]
    rw [cutF, if_neg (by decide), if_pos (by decide), e3.1, e3.2, h1, h2, if_pos rfl]
    simp only [List.drop_succ_cons, List.drop_zero, UInt8.ofNat_toNat]
    rw [cutF_fuel (by omega)]
  · rename_i h
    simp only [List.cons_append, List.nil_append, List.length_cons]
    rw [cutF, if_neg (by omega), if_neg (by omega)]
theorem cut_escL : ∀ (t r b : List UInt8) (l : List (List UInt8)), cutF (escL t ++ r).length (escL t ++ r) b l = cutF r.length r (b ++ t) l
  | [], r, b, l => by simp [escL]
  | c :: t, r, b, l => by
    have e : escL (c :: t) ++ r = esc1 c ++ (escL t ++ r) := by simp [escL]
    rw [e, cut_esc1, cut_escL t r (b ++ [c]) l]
    simp

theorem joinW_cons (s : List UInt8) (t : List UInt8) (r : List (List UInt8)) : joinW (s :: t :: r) ⟨#[46]⟩ = s ++ (46 :: joinW (t :: r) ⟨#[46]⟩) := by
  simp [joinW, Lib.join]
theorem joinW_one (s : List UInt8) : joinW [s] ⟨#[46]⟩ = s := by simp [joinW, Lib.join]

theorem cut_join : ∀ (r : List (List UInt8)) (s : List UInt8) (l : List (List UInt8)), ∃ p, cutF (joinW ((s :: r).map escL) ⟨#[46]⟩).length (joinW ((s :: r).map escL) ⟨#[46]⟩) [] l = some p ∧ p.1 ++ [p.2] = l ++ (s :: r)
  | [], s, l => by
    refine ⟨(l, s), ?_, by simp⟩
    simp only [List.map_cons, List.map_nil, joinW_one]
    have := cut_escL s [] [] l
    rw [List.append_nil] at this
    rw [this]
    simp [cutF]
  | t :: r, s, l => by
    obtain ⟨p, h1, h2⟩ := cut_join r t (l ++ [s])
    refine ⟨p, ?_, by rw [h2]; simp⟩
    simp only [List.map_cons, joinW_cons]
    rw [cut_escL, List.length_cons, cutF, if_pos (by decide)]
    simpa using h1

theorem cut_text {ls : List (List UInt8)} (h : ls ≠ []) : labO (textN ls) = true ∧ labL (textN ls) = ls := by
  obtain ⟨s, r, rfl⟩ : ∃ s r, ls = s :: r := by cases ls with | nil => exact absurd rfl h | cons s r => exact ⟨s, r, rfl⟩
  obtain ⟨p, h1, h2⟩ := cut_join r s []
  have e : textN (s :: r) = joinW ((s :: r).map escL) ⟨#[46]⟩ := by unfold textN; rw [if_neg h]
  have hc : cutW (textN (s :: r)) = some p := by rw [e]; exact h1
  constructor
  · unfold labO; rw [hc]; rfl
  · unfold labL; rw [hc]; simpa using h2

theorem text_dot {ls : List (List UInt8)} (h : ls ≠ []) (hg : goodN ls = true) : textN ls ≠ [46] := by
  intro e
  have h1 := (cut_text h).2
  rw [e] at h1
  have h2 : labL [46] = [[], []] := by decide
  rw [h2] at h1
  rw [← h1] at hg
  exact absurd hg (by decide)

theorem text_len {ls : List (List UInt8)} (h : ls.length ≤ 200) (hl : ∀ s ∈ ls, s.length ≤ 300) : (textN ls).length ≤ 900000 := by
  unfold textN
  split
  · simp
  · have := join_len (ls.map escL) ⟨#[46]⟩ (by simp) 1200 (fun e he => by
      obtain ⟨x, hx, rfl⟩ := List.mem_map.1 he
      have h1 := escL_len x
      have := hl x hx
      omega)
    rw [List.length_map] at this
    have h3 : ls.length * (1200 + 10) ≤ 200 * (1200 + 10) := Nat.mul_le_mul_right _ h
    omega

theorem sameN_self : ∀ ls : List (List UInt8), sameN ls ls = true
  | [] => rfl
  | s :: r => by rw [sameN, sameN_self r, alike_map, decide_eq_true rfl]; rfl

theorem nameBack_walk (ls : List (List UInt8)) : ∃ L' nx', ACall Try.prog 14 [vS ls] [] 0 (.val (.bool true)) L' nx' := by
  have e := lsOf_vS ls
  unfold vS sStr at e
  cases hl : longN ls with
  | true =>
    refine ⟨_, _, outXS_ok (kB_ok 0) (nba_long ls) ?_⟩
    simp only [e]
    repeat' (first | exact allNil | refine allCons ?_ ?_ | (with_reducible refine allRp _ ?_ ?_))
    all_goals first | exact hl | exact True.intro | (with_reducible rfl)
  | false =>
    have hk := lsK_of hl
    have hk2 := longN_k hl
    have hm := hk.1
    cases hg : goodN ls with
    | false =>
      refine ⟨_, _, outXS_ok (kB_ok 0) (nba_bad ls) ?_⟩
      simp only [e]
      repeat' (first | exact allNil | refine allCons ?_ ?_ | (with_reducible refine allRp _ ?_ ?_))
      all_goals first | exact hl | exact hk | exact True.intro | (with_reducible rfl) | (simp [hg]; done)
    | true =>
      have e1 : strB [AV.val (Value.string { data := List.toArray (textN ls) })] = textN ls := strB_s _
      have hlen := text_len hk2.1 hk2.2
      by_cases h0 : ls = []
      · have ht : textN ls = [46] := by rw [h0]; rfl
        have hs0 : sameN ls [] = true := by rw [h0]; rfl
        have h := outXS_ok (kB_ok 0) (nba_nil ls) (by
          simp only [e, e1]
          repeat' (first | exact allNil | refine allCons ?_ ?_ | (with_reducible refine allRp _ ?_ ?_))
          all_goals first | exact hl | exact hk | exact ht | exact h0 | exact True.intro | (with_reducible rfl) | (simp [hg]; done) | (simp [h0]; done))
        simp only [e, e1, hs0] at h
        exact ⟨_, _, h⟩
      · obtain ⟨c1, c2⟩ := cut_text h0
        have ht := text_dot h0 hg
        have hpo : parO (textN ls) = true := by unfold parO; rw [c1, c2, hg]; simp
        have htp := txtP_take ls
        have hss := sameN_self ls
        have h := outXS_ok (kB_ok 2) (nba_ok ls) (by
          simp only [e, e1, c2, txtL_take]
          repeat' (first | exact allNil | refine allCons ?_ ?_ | (with_reducible refine allRp _ ?_ ?_))
          all_goals first | exact hl | exact hk | exact ht | exact h0 | exact hpo | exact hlen | exact htp | exact ⟨htp.1, True.intro, htp.2.2⟩ | exact True.intro | (with_reducible rfl) | omega | (simp [hg]; done))
        simp only [e, e1, c2, txtL_take, hss] at h
        exact ⟨_, _, h⟩
end Go.Proofs.Ytmilcpejchjleaa
