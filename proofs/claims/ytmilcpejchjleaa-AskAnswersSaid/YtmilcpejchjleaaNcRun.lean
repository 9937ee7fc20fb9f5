/- Labels that are alike, reckoned. (Printed by wip/tools/gen.py from wip/sym/XSNc.lean.) -/
import Derived.Test.YtmilcpejchjleaaNb
namespace Go.Proofs.Ytmilcpejchjleaa
open Go.RowKit

set_option maxRecDepth 100000 in
theorem same_len (a : List UInt8) (b : List UInt8) : outXS kN1 [(87, { br := [(10, true)] })] Try.prog 87 [AV.val (Value.string { data := List.toArray a }), AV.val (Value.string { data := List.toArray b })] [] 0 [] [] =
   some (AV.val (Value.bool false), [], 7,
   (((↑(List.length a) : Int) != (↑(List.length b) : Int)) = true) :: []) := by kernel_rfl

set_option maxRecDepth 100000 in
theorem same_yes (a : List UInt8) (b : List UInt8) : outXS kN1 [(87, { br := [(10, false)] })] Try.prog 87 [AV.val (Value.string { data := List.toArray a }), AV.val (Value.string { data := List.toArray b })] [] 0 [] [(4, alkL a b)] =
   some (AV.val (Value.bool true), [], 1,
   (((↑(List.length a) : Int) != (↑(List.length b) : Int)) = false) ::
   (AV.val (Value.string { data := List.toArray a }) = AV.val (Value.string { data := List.toArray a })) ::
   (AV.val (Value.string { data := List.toArray b }) = AV.val (Value.string { data := List.toArray b })) ::
   (AV.val (Value.int IntKind.i64 (↑(List.length a) : Int)) = AV.val (Value.int IntKind.i64 (↑(List.length a) : Int))) ::
   (AV.val (Value.int IntKind.i64 (0 : Int)) = AV.val (Value.int IntKind.i64 (0 : Int))) ::
   (EvXL Try.prog 0 (loopAt Try.prog 87 4) (GoalX.st (LoopX.G (alkL a b)) 0) (LoopX.ex (alkL a b)) (GoalX.st (LoopX.E (alkL a b)) 0)) :: []) := by kernel_rfl

set_option maxRecDepth 100000 in
theorem same_no (a : List UInt8) (b : List UInt8) : outXS kN1 [(87, { br := [(10, false)] })] Try.prog 87 [AV.val (Value.string { data := List.toArray a }), AV.val (Value.string { data := List.toArray b })] [] 0 [] [(4, alkR a b)] =
   some (AV.val (Value.bool false), [], 0,
   (((↑(List.length a) : Int) != (↑(List.length b) : Int)) = false) ::
   (AV.val (Value.string { data := List.toArray a }) = AV.val (Value.string { data := List.toArray a })) ::
   (AV.val (Value.string { data := List.toArray b }) = AV.val (Value.string { data := List.toArray b })) ::
   (AV.val (Value.int IntKind.i64 (↑(List.length a) : Int)) = AV.val (Value.int IntKind.i64 (↑(List.length a) : Int))) ::
   (AV.val (Value.int IntKind.i64 (0 : Int)) = AV.val (Value.int IntKind.i64 (0 : Int))) ::
   (EvXL Try.prog 0 (loopAt Try.prog 87 4) (GoalX.st (LoopX.G (alkR a b)) 0) (LoopX.ex (alkR a b)) (GoalX.st (LoopX.E (alkR a b)) 0)) :: []) := by kernel_rfl

set_option maxRecDepth 100000 in
theorem same_step (a : List UInt8) (b : List UInt8) (i : Nat) : stepXS kN1 [(87, { br := [(14, true), (24, false)], ob := [(6, 2), (6, 6)] })] Try.prog 87 4 (alkG a b i) (alkG a b (i + 1)) [] 0 [] =
   some (.normal,
   (decide ((↑i : Int) < (↑(List.length a) : Int)) = true) ::
   ((0 : Int) ≤ (↑i : Int) ∧ i < List.length a) ::
   ((0 : Int) ≤ (↑(UInt8.toNat (List.getD a i (0 : UInt8))) : Int) ∧ (↑(UInt8.toNat (List.getD a i (0 : UInt8))) : Int) < (256 : Int)) ::
   ((0 : Int) ≤ (↑i : Int) ∧ i < List.length b) ::
   ((0 : Int) ≤ (↑(UInt8.toNat (List.getD b i (0 : UInt8))) : Int) ∧ (↑(UInt8.toNat (List.getD b i (0 : UInt8))) : Int) < (256 : Int)) ::
   ((low (↑(UInt8.toNat (List.getD a i (0 : UInt8))) : Int) != low (↑(UInt8.toNat (List.getD b i (0 : UInt8))) : Int)) = false) ::
   (AV.val (Value.string { data := List.toArray a }) = AV.val (Value.string { data := List.toArray a })) ::
   (AV.val (Value.string { data := List.toArray b }) = AV.val (Value.string { data := List.toArray b })) ::
   (AV.val (Value.int IntKind.i64 (↑(List.length a) : Int)) = AV.val (Value.int IntKind.i64 (↑(List.length a) : Int))) ::
   (AV.val (Value.int IntKind.i64 (IntKind.wrap IntKind.i64 ((↑i : Int) + (1 : Int)))) = AV.val (Value.int IntKind.i64 (↑(i + 1) : Int))) :: []) := by kernel_rfl

set_option maxRecDepth 100000 in
theorem same_diff (a : List UInt8) (b : List UInt8) (i : Nat) : stepXS kN1 [(87, { br := [(14, true), (24, true)], ob := [(6, 2), (6, 6)] })] Try.prog 87 4 (alkG a b i) (alkN) [] 0 [] =
   some (.ret,
   (decide ((↑i : Int) < (↑(List.length a) : Int)) = true) ::
   ((0 : Int) ≤ (↑i : Int) ∧ i < List.length a) ::
   ((0 : Int) ≤ (↑(UInt8.toNat (List.getD a i (0 : UInt8))) : Int) ∧ (↑(UInt8.toNat (List.getD a i (0 : UInt8))) : Int) < (256 : Int)) ::
   ((0 : Int) ≤ (↑i : Int) ∧ i < List.length b) ::
   ((0 : Int) ≤ (↑(UInt8.toNat (List.getD b i (0 : UInt8))) : Int) ∧ (↑(UInt8.toNat (List.getD b i (0 : UInt8))) : Int) < (256 : Int)) ::
   ((low (↑(UInt8.toNat (List.getD a i (0 : UInt8))) : Int) != low (↑(UInt8.toNat (List.getD b i (0 : UInt8))) : Int)) = true) :: []) := by kernel_rfl

set_option maxRecDepth 100000 in
theorem same_end (a : List UInt8) (b : List UInt8) (i : Nat) : stepXS kN1 [(87, { br := [(14, false)] })] Try.prog 87 4 (alkG a b i) (alkE) [] 0 [] =
   some (.exit 0,
   (decide ((↑i : Int) < (↑(List.length a) : Int)) = false) :: []) := by kernel_rfl
end Go.Proofs.Ytmilcpejchjleaa
