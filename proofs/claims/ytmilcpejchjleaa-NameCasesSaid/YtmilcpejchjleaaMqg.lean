/- Several texts in one: QgRun, Qg, Gk, Pg. -/
import Derived.Test.YtmilcpejchjleaaMgt
import Derived.Test.YtmilcpejchjleaaMgr
import Derived.Test.YtmilcpejchjleaaAn

/- A name that is read by the document's way, reckoned. -/
namespace Go.Proofs.Ytmilcpejchjleaa
open Go.RowKit

set_option maxRecDepth 100000 in
theorem qg_short0 (b : List UInt8) (at_ : Nat) (nx : Int) (ld : Nat) (sz : Nat) : stepXS noneKnown [(46, { br := [(24, true)] })] Try.prog 46 7 (qgG b at_ nx ld sz) (qgEB (3 : Int)) [] 0 [] =
   some (.ret,
   [decide ((↑at_ : Int) ≥ (↑(List.length b) : Int)) = true,
   AV.val (Value.int IntKind.i64 (3 : Int)) = AV.val (Value.int IntKind.i64 (3 : Int))]) := by kernel_rfl

set_option maxRecDepth 100000 in
theorem qg_enda0 (b : List UInt8) (at_ : Nat) (nx : Int) (ld : Nat) (sz : Nat) : stepXS noneKnown [(46, { op := [(9, 2, .get)], br := [(24, false), (59, true), (63, true)], ob := [(9, 2)] })] Try.prog 46 7 (qgG b at_ nx ld sz) (qgE0 (↑(at_ + (1 : Nat)) : Int)) [] 0 [] =
   some (.ret,
   [decide ((↑at_ : Int) ≥ (↑(List.length b) : Int)) = false,
   (0 : Int) ≤ (↑at_ : Int) ∧ at_ < List.length b,
   (IntKind.wrap IntKind.i64 (↑(UInt8.toNat (List.getD b at_ (0 : UInt8))) : Int) == (0 : Int)) = true,
   decide (nx < (0 : Int)) = true,
   AV.val (Value.int IntKind.i64 (IntKind.wrap IntKind.i64 ((↑at_ : Int) + (1 : Int)))) = AV.val (Value.int IntKind.i64 (↑(at_ + (1 : Nat)) : Int))]) := by kernel_rfl

set_option maxRecDepth 100000 in
theorem qg_endb0 (b : List UInt8) (at_ : Nat) (nx : Int) (ld : Nat) (sz : Nat) : stepXS noneKnown [(46, { op := [(9, 2, .get)], br := [(24, false), (59, true), (63, false)], ob := [(9, 2)] })] Try.prog 46 7 (qgG b at_ nx ld sz) (qgE0 nx) [] 0 [] =
   some (.ret,
   [decide ((↑at_ : Int) ≥ (↑(List.length b) : Int)) = false,
   (0 : Int) ≤ (↑at_ : Int) ∧ at_ < List.length b,
   (IntKind.wrap IntKind.i64 (↑(UInt8.toNat (List.getD b at_ (0 : UInt8))) : Int) == (0 : Int)) = true,
   decide (nx < (0 : Int)) = false,
   AV.val (Value.int IntKind.i64 nx) = AV.val (Value.int IntKind.i64 nx)]) := by kernel_rfl

set_option maxRecDepth 100000 in
theorem qg_ldshort0 (b : List UInt8) (at_ : Nat) (nx : Int) (ld : Nat) (sz : Nat) : stepXS noneKnown [(46, { op := [(9, 2, .get)], br := [(24, false), (59, false), (68, true), (75, true)], ob := [(9, 2)] })] Try.prog 46 7 (qgG b at_ nx ld sz) (qgEB (3 : Int)) [] 0 [] =
   some (.ret,
   [decide ((↑at_ : Int) ≥ (↑(List.length b) : Int)) = false,
   (0 : Int) ≤ (↑at_ : Int) ∧ at_ < List.length b,
   (IntKind.wrap IntKind.i64 (↑(UInt8.toNat (List.getD b at_ (0 : UInt8))) : Int) == (0 : Int)) = false,
   decide (IntKind.wrap IntKind.i64 (↑(UInt8.toNat (List.getD b at_ (0 : UInt8))) : Int) ≥ (192 : Int)) = true,
   decide (IntKind.wrap IntKind.i64 ((↑at_ : Int) + (1 : Int)) ≥ (↑(List.length b) : Int)) = true,
   AV.val (Value.int IntKind.i64 (3 : Int)) = AV.val (Value.int IntKind.i64 (3 : Int))]) := by kernel_rfl

set_option maxRecDepth 100000 in
theorem qg_ldto0 (b : List UInt8) (at_ : Nat) (nx : Int) (ld : Nat) (sz : Nat) : stepXS noneKnown [(46, { op := [(9, 2, .get), (24, 6, .get), (28, 6, .br true)], gd := [(28, 4, true), (28, 5, true)], br := [(24, false), (59, false), (68, true), (75, false), (87, true)], ob := [(9, 2), (24, 6)] })] Try.prog 46 7 (qgG b at_ nx ld sz) (qgEB (4 : Int)) [] 0 [] =
   some (.ret,
   [decide ((↑at_ : Int) ≥ (↑(List.length b) : Int)) = false,
   (0 : Int) ≤ (↑at_ : Int) ∧ at_ < List.length b,
   (IntKind.wrap IntKind.i64 (↑(UInt8.toNat (List.getD b at_ (0 : UInt8))) : Int) == (0 : Int)) = false,
   decide (IntKind.wrap IntKind.i64 (↑(UInt8.toNat (List.getD b at_ (0 : UInt8))) : Int) ≥ (192 : Int)) = true,
   decide (IntKind.wrap IntKind.i64 ((↑at_ : Int) + (1 : Int)) ≥ (↑(List.length b) : Int)) = false,
   (0 : Int) ≤ IntKind.wrap IntKind.i64 ((↑at_ : Int) + (1 : Int)) ∧ Int.toNat (IntKind.wrap IntKind.i64 ((↑at_ : Int) + (1 : Int))) < List.length b,
   decide (nx < (0 : Int)) = true,
   decide (bits BinOp.or IntKind.i64 (IntKind.wrap IntKind.i64 (IntKind.wrap IntKind.i64 (IntKind.wrap IntKind.i64 (↑(UInt8.toNat (List.getD b at_ (0 : UInt8))) : Int) - (192 : Int)) * (256 : Int))) (IntKind.wrap IntKind.i64 (↑(UInt8.toNat (List.getD b (Int.toNat (IntKind.wrap IntKind.i64 ((↑at_ : Int) + (1 : Int)))) (0 : UInt8))) : Int)) ≥ (↑at_ : Int)) = true,
   decide (bits BinOp.or IntKind.i64 (IntKind.wrap IntKind.i64 (IntKind.wrap IntKind.i64 (IntKind.wrap IntKind.i64 (↑(UInt8.toNat (List.getD b at_ (0 : UInt8))) : Int) - (192 : Int)) * (256 : Int))) (IntKind.wrap IntKind.i64 (↑(UInt8.toNat (List.getD b (Int.toNat (IntKind.wrap IntKind.i64 ((↑at_ : Int) + (1 : Int)))) (0 : UInt8))) : Int)) ≥ (↑at_ : Int)) = true,
   decide (bits BinOp.or IntKind.i64 (IntKind.wrap IntKind.i64 (IntKind.wrap IntKind.i64 (IntKind.wrap IntKind.i64 (↑(UInt8.toNat (List.getD b at_ (0 : UInt8))) : Int) - (192 : Int)) * (256 : Int))) (IntKind.wrap IntKind.i64 (↑(UInt8.toNat (List.getD b (Int.toNat (IntKind.wrap IntKind.i64 ((↑at_ : Int) + (1 : Int)))) (0 : UInt8))) : Int)) ≥ (↑at_ : Int)) = true,
   AV.val (Value.int IntKind.i64 (4 : Int)) = AV.val (Value.int IntKind.i64 (4 : Int))]) := by kernel_rfl

set_option maxRecDepth 100000 in
theorem qg_ldmany0 (b : List UInt8) (at_ : Nat) (nx : Int) (ld : Nat) (sz : Nat) : stepXS noneKnown [(46, { op := [(9, 2, .get), (24, 6, .get), (28, 6, .br false)], gd := [(28, 4, false), (28, 5, false)], br := [(24, false), (59, false), (68, true), (75, false), (87, true), (98, true)], ob := [(9, 2), (24, 6)] })] Try.prog 46 7 (qgG b at_ nx ld sz) (qgEB (4 : Int)) [] 0 [] =
   some (.ret,
   [decide ((↑at_ : Int) ≥ (↑(List.length b) : Int)) = false,
   (0 : Int) ≤ (↑at_ : Int) ∧ at_ < List.length b,
   (IntKind.wrap IntKind.i64 (↑(UInt8.toNat (List.getD b at_ (0 : UInt8))) : Int) == (0 : Int)) = false,
   decide (IntKind.wrap IntKind.i64 (↑(UInt8.toNat (List.getD b at_ (0 : UInt8))) : Int) ≥ (192 : Int)) = true,
   decide (IntKind.wrap IntKind.i64 ((↑at_ : Int) + (1 : Int)) ≥ (↑(List.length b) : Int)) = false,
   (0 : Int) ≤ IntKind.wrap IntKind.i64 ((↑at_ : Int) + (1 : Int)) ∧ Int.toNat (IntKind.wrap IntKind.i64 ((↑at_ : Int) + (1 : Int))) < List.length b,
   decide (nx < (0 : Int)) = true,
   decide (bits BinOp.or IntKind.i64 (IntKind.wrap IntKind.i64 (IntKind.wrap IntKind.i64 (IntKind.wrap IntKind.i64 (↑(UInt8.toNat (List.getD b at_ (0 : UInt8))) : Int) - (192 : Int)) * (256 : Int))) (IntKind.wrap IntKind.i64 (↑(UInt8.toNat (List.getD b (Int.toNat (IntKind.wrap IntKind.i64 ((↑at_ : Int) + (1 : Int)))) (0 : UInt8))) : Int)) ≥ (↑at_ : Int)) = false,
   decide (bits BinOp.or IntKind.i64 (IntKind.wrap IntKind.i64 (IntKind.wrap IntKind.i64 (IntKind.wrap IntKind.i64 (↑(UInt8.toNat (List.getD b at_ (0 : UInt8))) : Int) - (192 : Int)) * (256 : Int))) (IntKind.wrap IntKind.i64 (↑(UInt8.toNat (List.getD b (Int.toNat (IntKind.wrap IntKind.i64 ((↑at_ : Int) + (1 : Int)))) (0 : UInt8))) : Int)) ≥ (↑at_ : Int)) = false,
   decide (bits BinOp.or IntKind.i64 (IntKind.wrap IntKind.i64 (IntKind.wrap IntKind.i64 (IntKind.wrap IntKind.i64 (↑(UInt8.toNat (List.getD b at_ (0 : UInt8))) : Int) - (192 : Int)) * (256 : Int))) (IntKind.wrap IntKind.i64 (↑(UInt8.toNat (List.getD b (Int.toNat (IntKind.wrap IntKind.i64 ((↑at_ : Int) + (1 : Int)))) (0 : UInt8))) : Int)) ≥ (↑at_ : Int)) = false,
   decide (IntKind.wrap IntKind.i64 ((↑ld : Int) + (1 : Int)) > (64 : Int)) = true,
   AV.val (Value.int IntKind.i64 (4 : Int)) = AV.val (Value.int IntKind.i64 (4 : Int))]) := by kernel_rfl

set_option maxRecDepth 100000 in
theorem qg_lda0 (b : List UInt8) (at_ : Nat) (nx : Int) (ld : Nat) (sz : Nat) : stepXS noneKnown [(46, { op := [(9, 2, .get), (24, 6, .get), (28, 6, .br false)], gd := [(28, 4, false), (28, 5, false)], br := [(24, false), (59, false), (68, true), (75, false), (87, true), (98, false)], ob := [(9, 2), (24, 6)] })] Try.prog 46 7 (qgG b at_ nx ld sz) (qgG b (leadTo b at_) (↑(at_ + (2 : Nat)) : Int) (ld + (1 : Nat)) sz) [] 0 [] =
   some (.normal,
   [decide ((↑at_ : Int) ≥ (↑(List.length b) : Int)) = false,
   (0 : Int) ≤ (↑at_ : Int) ∧ at_ < List.length b,
   (IntKind.wrap IntKind.i64 (↑(UInt8.toNat (List.getD b at_ (0 : UInt8))) : Int) == (0 : Int)) = false,
   decide (IntKind.wrap IntKind.i64 (↑(UInt8.toNat (List.getD b at_ (0 : UInt8))) : Int) ≥ (192 : Int)) = true,
   decide (IntKind.wrap IntKind.i64 ((↑at_ : Int) + (1 : Int)) ≥ (↑(List.length b) : Int)) = false,
   (0 : Int) ≤ IntKind.wrap IntKind.i64 ((↑at_ : Int) + (1 : Int)) ∧ Int.toNat (IntKind.wrap IntKind.i64 ((↑at_ : Int) + (1 : Int))) < List.length b,
   decide (nx < (0 : Int)) = true,
   decide (bits BinOp.or IntKind.i64 (IntKind.wrap IntKind.i64 (IntKind.wrap IntKind.i64 (IntKind.wrap IntKind.i64 (↑(UInt8.toNat (List.getD b at_ (0 : UInt8))) : Int) - (192 : Int)) * (256 : Int))) (IntKind.wrap IntKind.i64 (↑(UInt8.toNat (List.getD b (Int.toNat (IntKind.wrap IntKind.i64 ((↑at_ : Int) + (1 : Int)))) (0 : UInt8))) : Int)) ≥ (↑at_ : Int)) = false,
   decide (bits BinOp.or IntKind.i64 (IntKind.wrap IntKind.i64 (IntKind.wrap IntKind.i64 (IntKind.wrap IntKind.i64 (↑(UInt8.toNat (List.getD b at_ (0 : UInt8))) : Int) - (192 : Int)) * (256 : Int))) (IntKind.wrap IntKind.i64 (↑(UInt8.toNat (List.getD b (Int.toNat (IntKind.wrap IntKind.i64 ((↑at_ : Int) + (1 : Int)))) (0 : UInt8))) : Int)) ≥ (↑at_ : Int)) = false,
   decide (bits BinOp.or IntKind.i64 (IntKind.wrap IntKind.i64 (IntKind.wrap IntKind.i64 (IntKind.wrap IntKind.i64 (↑(UInt8.toNat (List.getD b at_ (0 : UInt8))) : Int) - (192 : Int)) * (256 : Int))) (IntKind.wrap IntKind.i64 (↑(UInt8.toNat (List.getD b (Int.toNat (IntKind.wrap IntKind.i64 ((↑at_ : Int) + (1 : Int)))) (0 : UInt8))) : Int)) ≥ (↑at_ : Int)) = false,
   decide (IntKind.wrap IntKind.i64 ((↑ld : Int) + (1 : Int)) > (64 : Int)) = false,
   AV.bytes b = AV.bytes b,
   AV.val (Value.int IntKind.i64 (bits BinOp.or IntKind.i64 (IntKind.wrap IntKind.i64 (IntKind.wrap IntKind.i64 (IntKind.wrap IntKind.i64 (↑(UInt8.toNat (List.getD b at_ (0 : UInt8))) : Int) - (192 : Int)) * (256 : Int))) (IntKind.wrap IntKind.i64 (↑(UInt8.toNat (List.getD b (Int.toNat (IntKind.wrap IntKind.i64 ((↑at_ : Int) + (1 : Int)))) (0 : UInt8))) : Int)))) = AV.val (Value.int IntKind.i64 (↑(leadTo b at_) : Int)),
   AV.val (Value.int IntKind.i64 (IntKind.wrap IntKind.i64 ((↑at_ : Int) + (2 : Int)))) = AV.val (Value.int IntKind.i64 (↑(at_ + (2 : Nat)) : Int)),
   AV.val (Value.int IntKind.i64 (↑(sz + (1 : Nat)) : Int)) = AV.val (Value.int IntKind.i64 (↑(sz + (1 : Nat)) : Int)),
   AV.val (Value.int IntKind.i64 (IntKind.wrap IntKind.i64 ((↑ld : Int) + (1 : Int)))) = AV.val (Value.int IntKind.i64 (↑(ld + (1 : Nat)) : Int))]) := by kernel_rfl

set_option maxRecDepth 100000 in
theorem qg_ldb0 (b : List UInt8) (at_ : Nat) (nx : Int) (ld : Nat) (sz : Nat) : stepXS noneKnown [(46, { op := [(9, 2, .get), (24, 6, .get), (28, 6, .br false)], gd := [(28, 4, false), (28, 5, false)], br := [(24, false), (59, false), (68, true), (75, false), (87, false), (98, false)], ob := [(9, 2), (24, 6)] })] Try.prog 46 7 (qgG b at_ nx ld sz) (qgG b (leadTo b at_) nx (ld + (1 : Nat)) sz) [] 0 [] =
   some (.normal,
   [decide ((↑at_ : Int) ≥ (↑(List.length b) : Int)) = false,
   (0 : Int) ≤ (↑at_ : Int) ∧ at_ < List.length b,
   (IntKind.wrap IntKind.i64 (↑(UInt8.toNat (List.getD b at_ (0 : UInt8))) : Int) == (0 : Int)) = false,
   decide (IntKind.wrap IntKind.i64 (↑(UInt8.toNat (List.getD b at_ (0 : UInt8))) : Int) ≥ (192 : Int)) = true,
   decide (IntKind.wrap IntKind.i64 ((↑at_ : Int) + (1 : Int)) ≥ (↑(List.length b) : Int)) = false,
   (0 : Int) ≤ IntKind.wrap IntKind.i64 ((↑at_ : Int) + (1 : Int)) ∧ Int.toNat (IntKind.wrap IntKind.i64 ((↑at_ : Int) + (1 : Int))) < List.length b,
   decide (nx < (0 : Int)) = false,
   decide (bits BinOp.or IntKind.i64 (IntKind.wrap IntKind.i64 (IntKind.wrap IntKind.i64 (IntKind.wrap IntKind.i64 (↑(UInt8.toNat (List.getD b at_ (0 : UInt8))) : Int) - (192 : Int)) * (256 : Int))) (IntKind.wrap IntKind.i64 (↑(UInt8.toNat (List.getD b (Int.toNat (IntKind.wrap IntKind.i64 ((↑at_ : Int) + (1 : Int)))) (0 : UInt8))) : Int)) ≥ (↑at_ : Int)) = false,
   decide (bits BinOp.or IntKind.i64 (IntKind.wrap IntKind.i64 (IntKind.wrap IntKind.i64 (IntKind.wrap IntKind.i64 (↑(UInt8.toNat (List.getD b at_ (0 : UInt8))) : Int) - (192 : Int)) * (256 : Int))) (IntKind.wrap IntKind.i64 (↑(UInt8.toNat (List.getD b (Int.toNat (IntKind.wrap IntKind.i64 ((↑at_ : Int) + (1 : Int)))) (0 : UInt8))) : Int)) ≥ (↑at_ : Int)) = false,
   decide (bits BinOp.or IntKind.i64 (IntKind.wrap IntKind.i64 (IntKind.wrap IntKind.i64 (IntKind.wrap IntKind.i64 (↑(UInt8.toNat (List.getD b at_ (0 : UInt8))) : Int) - (192 : Int)) * (256 : Int))) (IntKind.wrap IntKind.i64 (↑(UInt8.toNat (List.getD b (Int.toNat (IntKind.wrap IntKind.i64 ((↑at_ : Int) + (1 : Int)))) (0 : UInt8))) : Int)) ≥ (↑at_ : Int)) = false,
   decide (IntKind.wrap IntKind.i64 ((↑ld : Int) + (1 : Int)) > (64 : Int)) = false,
   AV.bytes b = AV.bytes b,
   AV.val (Value.int IntKind.i64 (bits BinOp.or IntKind.i64 (IntKind.wrap IntKind.i64 (IntKind.wrap IntKind.i64 (IntKind.wrap IntKind.i64 (↑(UInt8.toNat (List.getD b at_ (0 : UInt8))) : Int) - (192 : Int)) * (256 : Int))) (IntKind.wrap IntKind.i64 (↑(UInt8.toNat (List.getD b (Int.toNat (IntKind.wrap IntKind.i64 ((↑at_ : Int) + (1 : Int)))) (0 : UInt8))) : Int)))) = AV.val (Value.int IntKind.i64 (↑(leadTo b at_) : Int)),
   AV.val (Value.int IntKind.i64 nx) = AV.val (Value.int IntKind.i64 nx),
   AV.val (Value.int IntKind.i64 (↑(sz + (1 : Nat)) : Int)) = AV.val (Value.int IntKind.i64 (↑(sz + (1 : Nat)) : Int)),
   AV.val (Value.int IntKind.i64 (IntKind.wrap IntKind.i64 ((↑ld : Int) + (1 : Int)))) = AV.val (Value.int IntKind.i64 (↑(ld + (1 : Nat)) : Int))]) := by kernel_rfl

set_option maxRecDepth 100000 in
theorem qg_big0 (b : List UInt8) (at_ : Nat) (nx : Int) (ld : Nat) (sz : Nat) : stepXS noneKnown [(46, { op := [(9, 2, .get)], br := [(24, false), (59, false), (68, false), (100, true)], ob := [(9, 2)] })] Try.prog 46 7 (qgG b at_ nx ld sz) (qgEB (4 : Int)) [] 0 [] =
   some (.ret,
   [decide ((↑at_ : Int) ≥ (↑(List.length b) : Int)) = false,
   (0 : Int) ≤ (↑at_ : Int) ∧ at_ < List.length b,
   (IntKind.wrap IntKind.i64 (↑(UInt8.toNat (List.getD b at_ (0 : UInt8))) : Int) == (0 : Int)) = false,
   decide (IntKind.wrap IntKind.i64 (↑(UInt8.toNat (List.getD b at_ (0 : UInt8))) : Int) ≥ (192 : Int)) = false,
   decide (IntKind.wrap IntKind.i64 (↑(UInt8.toNat (List.getD b at_ (0 : UInt8))) : Int) ≥ (64 : Int)) = true,
   AV.val (Value.int IntKind.i64 (4 : Int)) = AV.val (Value.int IntKind.i64 (4 : Int))]) := by kernel_rfl

set_option maxRecDepth 100000 in
theorem qg_labshort0 (b : List UInt8) (at_ : Nat) (nx : Int) (ld : Nat) (sz : Nat) : stepXS noneKnown [(46, { op := [(9, 2, .get)], br := [(24, false), (59, false), (68, false), (100, false), (36, true)], ob := [(9, 2)] })] Try.prog 46 7 (qgG b at_ nx ld sz) (qgEB (3 : Int)) [] 0 [] =
   some (.ret,
   [decide ((↑at_ : Int) ≥ (↑(List.length b) : Int)) = false,
   (0 : Int) ≤ (↑at_ : Int) ∧ at_ < List.length b,
   (IntKind.wrap IntKind.i64 (↑(UInt8.toNat (List.getD b at_ (0 : UInt8))) : Int) == (0 : Int)) = false,
   decide (IntKind.wrap IntKind.i64 (↑(UInt8.toNat (List.getD b at_ (0 : UInt8))) : Int) ≥ (192 : Int)) = false,
   decide (IntKind.wrap IntKind.i64 (↑(UInt8.toNat (List.getD b at_ (0 : UInt8))) : Int) ≥ (64 : Int)) = false,
   decide (IntKind.wrap IntKind.i64 (IntKind.wrap IntKind.i64 ((↑at_ : Int) + (1 : Int)) + IntKind.wrap IntKind.i64 (↑(UInt8.toNat (List.getD b at_ (0 : UInt8))) : Int)) > (↑(List.length b) : Int)) = true,
   AV.val (Value.int IntKind.i64 (3 : Int)) = AV.val (Value.int IntKind.i64 (3 : Int))]) := by kernel_rfl

set_option maxRecDepth 100000 in
theorem qg_labsize0 (b : List UInt8) (at_ : Nat) (nx : Int) (ld : Nat) (sz : Nat) : stepXS noneKnown [(46, { op := [(9, 2, .get)], br := [(24, false), (59, false), (68, false), (100, false), (36, false), (42, true)], ob := [(9, 2)] })] Try.prog 46 7 (qgG b at_ nx ld sz) (qgEB (4 : Int)) [] 0 [] =
   some (.ret,
   [decide ((↑at_ : Int) ≥ (↑(List.length b) : Int)) = false,
   (0 : Int) ≤ (↑at_ : Int) ∧ at_ < List.length b,
   (IntKind.wrap IntKind.i64 (↑(UInt8.toNat (List.getD b at_ (0 : UInt8))) : Int) == (0 : Int)) = false,
   decide (IntKind.wrap IntKind.i64 (↑(UInt8.toNat (List.getD b at_ (0 : UInt8))) : Int) ≥ (192 : Int)) = false,
   decide (IntKind.wrap IntKind.i64 (↑(UInt8.toNat (List.getD b at_ (0 : UInt8))) : Int) ≥ (64 : Int)) = false,
   decide (IntKind.wrap IntKind.i64 (IntKind.wrap IntKind.i64 ((↑at_ : Int) + (1 : Int)) + IntKind.wrap IntKind.i64 (↑(UInt8.toNat (List.getD b at_ (0 : UInt8))) : Int)) > (↑(List.length b) : Int)) = false,
   decide (IntKind.wrap IntKind.i64 (IntKind.wrap IntKind.i64 ((↑(sz + (1 : Nat)) : Int) + (1 : Int)) + IntKind.wrap IntKind.i64 (↑(UInt8.toNat (List.getD b at_ (0 : UInt8))) : Int)) > (255 : Int)) = true,
   AV.val (Value.int IntKind.i64 (4 : Int)) = AV.val (Value.int IntKind.i64 (4 : Int))]) := by kernel_rfl

set_option maxRecDepth 100000 in
theorem qg_lab0 (b : List UInt8) (at_ : Nat) (nx : Int) (ld : Nat) (sz : Nat) : stepXS noneKnown [(46, { op := [(9, 2, .get)], br := [(24, false), (59, false), (68, false), (100, false), (36, false), (42, false)], ob := [(9, 2), (15, 8)] })] Try.prog 46 7 (qgG b at_ nx ld sz) (qgG1r b (at_ + (1 : Nat) + UInt8.toNat (List.getD b at_ (0 : UInt8))) nx ld (sz + (1 : Nat) + UInt8.toNat (List.getD b at_ (0 : UInt8))) [List.take (UInt8.toNat (List.getD b at_ (0 : UInt8))) (List.drop (at_ + (1 : Nat)) b)]) [(44 : Nat)] 0 [] =
   some (.normal,
   [decide ((↑at_ : Int) ≥ (↑(List.length b) : Int)) = false,
   (0 : Int) ≤ (↑at_ : Int) ∧ at_ < List.length b,
   (IntKind.wrap IntKind.i64 (↑(UInt8.toNat (List.getD b at_ (0 : UInt8))) : Int) == (0 : Int)) = false,
   decide (IntKind.wrap IntKind.i64 (↑(UInt8.toNat (List.getD b at_ (0 : UInt8))) : Int) ≥ (192 : Int)) = false,
   decide (IntKind.wrap IntKind.i64 (↑(UInt8.toNat (List.getD b at_ (0 : UInt8))) : Int) ≥ (64 : Int)) = false,
   decide (IntKind.wrap IntKind.i64 (IntKind.wrap IntKind.i64 ((↑at_ : Int) + (1 : Int)) + IntKind.wrap IntKind.i64 (↑(UInt8.toNat (List.getD b at_ (0 : UInt8))) : Int)) > (↑(List.length b) : Int)) = false,
   decide (IntKind.wrap IntKind.i64 (IntKind.wrap IntKind.i64 ((↑(sz + (1 : Nat)) : Int) + (1 : Int)) + IntKind.wrap IntKind.i64 (↑(UInt8.toNat (List.getD b at_ (0 : UInt8))) : Int)) > (255 : Int)) = false,
   (0 : Int) ≤ IntKind.wrap IntKind.i64 ((↑at_ : Int) + (1 : Int)),
   (0 : Int) ≤ IntKind.wrap IntKind.i64 (IntKind.wrap IntKind.i64 ((↑at_ : Int) + (1 : Int)) + IntKind.wrap IntKind.i64 (↑(UInt8.toNat (List.getD b at_ (0 : UInt8))) : Int)),
   Int.toNat (IntKind.wrap IntKind.i64 ((↑at_ : Int) + (1 : Int))) ≤ Int.toNat (IntKind.wrap IntKind.i64 (IntKind.wrap IntKind.i64 ((↑at_ : Int) + (1 : Int)) + IntKind.wrap IntKind.i64 (↑(UInt8.toNat (List.getD b at_ (0 : UInt8))) : Int))) ∧ Int.toNat (IntKind.wrap IntKind.i64 (IntKind.wrap IntKind.i64 ((↑at_ : Int) + (1 : Int)) + IntKind.wrap IntKind.i64 (↑(UInt8.toNat (List.getD b at_ (0 : UInt8))) : Int))) ≤ List.length b,
   AV.sl 44 (0 : Nat) (1 : Nat) none = AV.sl (44 : Nat) (0 : Nat) (1 : Nat) none,
   AV.bytes b = AV.bytes b,
   AV.val (Value.int IntKind.i64 (IntKind.wrap IntKind.i64 (IntKind.wrap IntKind.i64 ((↑at_ : Int) + (1 : Int)) + IntKind.wrap IntKind.i64 (↑(UInt8.toNat (List.getD b at_ (0 : UInt8))) : Int)))) = AV.val (Value.int IntKind.i64 (↑(at_ + (1 : Nat) + UInt8.toNat (List.getD b at_ (0 : UInt8))) : Int)),
   AV.val (Value.int IntKind.i64 nx) = AV.val (Value.int IntKind.i64 nx),
   AV.val (Value.int IntKind.i64 (IntKind.wrap IntKind.i64 (IntKind.wrap IntKind.i64 ((↑(sz + (1 : Nat)) : Int) + (1 : Int)) + IntKind.wrap IntKind.i64 (↑(UInt8.toNat (List.getD b at_ (0 : UInt8))) : Int)))) = AV.val (Value.int IntKind.i64 (↑(sz + (1 : Nat) + UInt8.toNat (List.getD b at_ (0 : UInt8)) + (1 : Nat)) : Int)),
   AV.val (Value.int IntKind.i64 (↑ld : Int)) = AV.val (Value.int IntKind.i64 (↑ld : Int)),
   SameO (some { t := (9 : Nat), sz := (1 : Nat), exact := false, fz := false, body := Body.rows [[AV.val (Value.string { data := List.toArray (List.drop (Int.toNat (IntKind.wrap IntKind.i64 ((↑at_ : Int) + (1 : Int)))) (List.take (Int.toNat (IntKind.wrap IntKind.i64 (IntKind.wrap IntKind.i64 ((↑at_ : Int) + (1 : Int)) + IntKind.wrap IntKind.i64 (↑(UInt8.toNat (List.getD b at_ (0 : UInt8))) : Int)))) b)) })]] }) { t := (9 : Nat), sz := (1 : Nat), exact := false, fz := false, body := Body.rows [[AV.val (Value.string { data := List.toArray (List.take (UInt8.toNat (List.getD b at_ (0 : UInt8))) (List.drop (at_ + (1 : Nat)) b)) })]] }]) := by kernel_rfl

set_option maxRecDepth 100000 in
theorem qg_ldtob0 (b : List UInt8) (at_ : Nat) (nx : Int) (ld : Nat) (sz : Nat) : stepXS noneKnown [(46, { op := [(9, 2, .get), (24, 6, .get), (28, 6, .br true)], gd := [(28, 4, true), (28, 5, true)], br := [(24, false), (59, false), (68, true), (75, false), (87, false)], ob := [(9, 2), (24, 6)] })] Try.prog 46 7 (qgG b at_ nx ld sz) (qgEB (4 : Int)) [] 0 [] =
   some (.ret,
   [decide ((↑at_ : Int) ≥ (↑(List.length b) : Int)) = false,
   (0 : Int) ≤ (↑at_ : Int) ∧ at_ < List.length b,
   (IntKind.wrap IntKind.i64 (↑(UInt8.toNat (List.getD b at_ (0 : UInt8))) : Int) == (0 : Int)) = false,
   decide (IntKind.wrap IntKind.i64 (↑(UInt8.toNat (List.getD b at_ (0 : UInt8))) : Int) ≥ (192 : Int)) = true,
   decide (IntKind.wrap IntKind.i64 ((↑at_ : Int) + (1 : Int)) ≥ (↑(List.length b) : Int)) = false,
   (0 : Int) ≤ IntKind.wrap IntKind.i64 ((↑at_ : Int) + (1 : Int)) ∧ Int.toNat (IntKind.wrap IntKind.i64 ((↑at_ : Int) + (1 : Int))) < List.length b,
   decide (nx < (0 : Int)) = false,
   decide (bits BinOp.or IntKind.i64 (IntKind.wrap IntKind.i64 (IntKind.wrap IntKind.i64 (IntKind.wrap IntKind.i64 (↑(UInt8.toNat (List.getD b at_ (0 : UInt8))) : Int) - (192 : Int)) * (256 : Int))) (IntKind.wrap IntKind.i64 (↑(UInt8.toNat (List.getD b (Int.toNat (IntKind.wrap IntKind.i64 ((↑at_ : Int) + (1 : Int)))) (0 : UInt8))) : Int)) ≥ (↑at_ : Int)) = true,
   decide (bits BinOp.or IntKind.i64 (IntKind.wrap IntKind.i64 (IntKind.wrap IntKind.i64 (IntKind.wrap IntKind.i64 (↑(UInt8.toNat (List.getD b at_ (0 : UInt8))) : Int) - (192 : Int)) * (256 : Int))) (IntKind.wrap IntKind.i64 (↑(UInt8.toNat (List.getD b (Int.toNat (IntKind.wrap IntKind.i64 ((↑at_ : Int) + (1 : Int)))) (0 : UInt8))) : Int)) ≥ (↑at_ : Int)) = true,
   decide (bits BinOp.or IntKind.i64 (IntKind.wrap IntKind.i64 (IntKind.wrap IntKind.i64 (IntKind.wrap IntKind.i64 (↑(UInt8.toNat (List.getD b at_ (0 : UInt8))) : Int) - (192 : Int)) * (256 : Int))) (IntKind.wrap IntKind.i64 (↑(UInt8.toNat (List.getD b (Int.toNat (IntKind.wrap IntKind.i64 ((↑at_ : Int) + (1 : Int)))) (0 : UInt8))) : Int)) ≥ (↑at_ : Int)) = true,
   AV.val (Value.int IntKind.i64 (4 : Int)) = AV.val (Value.int IntKind.i64 (4 : Int))]) := by kernel_rfl

set_option maxRecDepth 100000 in
theorem qg_ldmanyb0 (b : List UInt8) (at_ : Nat) (nx : Int) (ld : Nat) (sz : Nat) : stepXS noneKnown [(46, { op := [(9, 2, .get), (24, 6, .get), (28, 6, .br false)], gd := [(28, 4, false), (28, 5, false)], br := [(24, false), (59, false), (68, true), (75, false), (87, false), (98, true)], ob := [(9, 2), (24, 6)] })] Try.prog 46 7 (qgG b at_ nx ld sz) (qgEB (4 : Int)) [] 0 [] =
   some (.ret,
   [decide ((↑at_ : Int) ≥ (↑(List.length b) : Int)) = false,
   (0 : Int) ≤ (↑at_ : Int) ∧ at_ < List.length b,
   (IntKind.wrap IntKind.i64 (↑(UInt8.toNat (List.getD b at_ (0 : UInt8))) : Int) == (0 : Int)) = false,
   decide (IntKind.wrap IntKind.i64 (↑(UInt8.toNat (List.getD b at_ (0 : UInt8))) : Int) ≥ (192 : Int)) = true,
   decide (IntKind.wrap IntKind.i64 ((↑at_ : Int) + (1 : Int)) ≥ (↑(List.length b) : Int)) = false,
   (0 : Int) ≤ IntKind.wrap IntKind.i64 ((↑at_ : Int) + (1 : Int)) ∧ Int.toNat (IntKind.wrap IntKind.i64 ((↑at_ : Int) + (1 : Int))) < List.length b,
   decide (nx < (0 : Int)) = false,
   decide (bits BinOp.or IntKind.i64 (IntKind.wrap IntKind.i64 (IntKind.wrap IntKind.i64 (IntKind.wrap IntKind.i64 (↑(UInt8.toNat (List.getD b at_ (0 : UInt8))) : Int) - (192 : Int)) * (256 : Int))) (IntKind.wrap IntKind.i64 (↑(UInt8.toNat (List.getD b (Int.toNat (IntKind.wrap IntKind.i64 ((↑at_ : Int) + (1 : Int)))) (0 : UInt8))) : Int)) ≥ (↑at_ : Int)) = false,
   decide (bits BinOp.or IntKind.i64 (IntKind.wrap IntKind.i64 (IntKind.wrap IntKind.i64 (IntKind.wrap IntKind.i64 (↑(UInt8.toNat (List.getD b at_ (0 : UInt8))) : Int) - (192 : Int)) * (256 : Int))) (IntKind.wrap IntKind.i64 (↑(UInt8.toNat (List.getD b (Int.toNat (IntKind.wrap IntKind.i64 ((↑at_ : Int) + (1 : Int)))) (0 : UInt8))) : Int)) ≥ (↑at_ : Int)) = false,
   decide (bits BinOp.or IntKind.i64 (IntKind.wrap IntKind.i64 (IntKind.wrap IntKind.i64 (IntKind.wrap IntKind.i64 (↑(UInt8.toNat (List.getD b at_ (0 : UInt8))) : Int) - (192 : Int)) * (256 : Int))) (IntKind.wrap IntKind.i64 (↑(UInt8.toNat (List.getD b (Int.toNat (IntKind.wrap IntKind.i64 ((↑at_ : Int) + (1 : Int)))) (0 : UInt8))) : Int)) ≥ (↑at_ : Int)) = false,
   decide (IntKind.wrap IntKind.i64 ((↑ld : Int) + (1 : Int)) > (64 : Int)) = true,
   AV.val (Value.int IntKind.i64 (4 : Int)) = AV.val (Value.int IntKind.i64 (4 : Int))]) := by kernel_rfl

set_option maxRecDepth 100000 in
theorem qg_short1 (b : List UInt8) (at_ : Nat) (nx : Int) (ld : Nat) (sz : Nat) (l : List (List UInt8)) : stepXS noneKnown [(46, { br := [(24, true)] })] Try.prog 46 7 (qgG1 b at_ nx ld sz l) (qgEB (3 : Int)) [] 0 [] =
   some (.ret,
   [decide ((↑at_ : Int) ≥ (↑(List.length b) : Int)) = true,
   AV.val (Value.int IntKind.i64 (3 : Int)) = AV.val (Value.int IntKind.i64 (3 : Int))]) := by kernel_rfl

set_option maxRecDepth 100000 in
theorem qg_enda1 (b : List UInt8) (at_ : Nat) (nx : Int) (ld : Nat) (sz : Nat) (l : List (List UInt8)) : stepXS noneKnown [(46, { op := [(9, 2, .get)], br := [(24, false), (59, true), (63, true)], ob := [(9, 2)] })] Try.prog 46 7 (qgG1 b at_ nx ld sz l) (qgE1 l (↑(at_ + (1 : Nat)) : Int)) [(0 : Nat)] 0 [] =
   some (.ret,
   [decide ((↑at_ : Int) ≥ (↑(List.length b) : Int)) = false,
   (0 : Int) ≤ (↑at_ : Int) ∧ at_ < List.length b,
   (IntKind.wrap IntKind.i64 (↑(UInt8.toNat (List.getD b at_ (0 : UInt8))) : Int) == (0 : Int)) = true,
   decide (nx < (0 : Int)) = true,
   AV.sl (0 : Nat) (0 : Nat) (List.length l) none = AV.sl (0 : Nat) (0 : Nat) (List.length l) none,
   AV.val (Value.int IntKind.i64 (IntKind.wrap IntKind.i64 ((↑at_ : Int) + (1 : Int)))) = AV.val (Value.int IntKind.i64 (↑(at_ + (1 : Nat)) : Int)),
   SameO (some { t := (9 : Nat), sz := (1 : Nat), exact := false, fz := false, body := Body.flat (rowsL l) }) { t := (9 : Nat), sz := (1 : Nat), exact := false, fz := false, body := Body.flat (List.map (fun x => (AV.brecOn_1.go x (AV.ren._f (renX 0 [(0 : Nat)] 24)) (renL._f (renX 0 [(0 : Nat)] 24))).1) (rowsL l)) }]) := by kernel_rfl

set_option maxRecDepth 100000 in
theorem qg_endb1 (b : List UInt8) (at_ : Nat) (nx : Int) (ld : Nat) (sz : Nat) (l : List (List UInt8)) : stepXS noneKnown [(46, { op := [(9, 2, .get)], br := [(24, false), (59, true), (63, false)], ob := [(9, 2)] })] Try.prog 46 7 (qgG1 b at_ nx ld sz l) (qgE1 l nx) [(0 : Nat)] 0 [] =
   some (.ret,
   [decide ((↑at_ : Int) ≥ (↑(List.length b) : Int)) = false,
   (0 : Int) ≤ (↑at_ : Int) ∧ at_ < List.length b,
   (IntKind.wrap IntKind.i64 (↑(UInt8.toNat (List.getD b at_ (0 : UInt8))) : Int) == (0 : Int)) = true,
   decide (nx < (0 : Int)) = false,
   AV.sl (0 : Nat) (0 : Nat) (List.length l) none = AV.sl (0 : Nat) (0 : Nat) (List.length l) none,
   AV.val (Value.int IntKind.i64 nx) = AV.val (Value.int IntKind.i64 nx),
   SameO (some { t := (9 : Nat), sz := (1 : Nat), exact := false, fz := false, body := Body.flat (rowsL l) }) { t := (9 : Nat), sz := (1 : Nat), exact := false, fz := false, body := Body.flat (List.map (fun x => (AV.brecOn_1.go x (AV.ren._f (renX 0 [(0 : Nat)] 21)) (renL._f (renX 0 [(0 : Nat)] 21))).1) (rowsL l)) }]) := by kernel_rfl

set_option maxRecDepth 100000 in
theorem qg_ldshort1 (b : List UInt8) (at_ : Nat) (nx : Int) (ld : Nat) (sz : Nat) (l : List (List UInt8)) : stepXS noneKnown [(46, { op := [(9, 2, .get)], br := [(24, false), (59, false), (68, true), (75, true)], ob := [(9, 2)] })] Try.prog 46 7 (qgG1 b at_ nx ld sz l) (qgEB (3 : Int)) [] 0 [] =
   some (.ret,
   [decide ((↑at_ : Int) ≥ (↑(List.length b) : Int)) = false,
   (0 : Int) ≤ (↑at_ : Int) ∧ at_ < List.length b,
   (IntKind.wrap IntKind.i64 (↑(UInt8.toNat (List.getD b at_ (0 : UInt8))) : Int) == (0 : Int)) = false,
   decide (IntKind.wrap IntKind.i64 (↑(UInt8.toNat (List.getD b at_ (0 : UInt8))) : Int) ≥ (192 : Int)) = true,
   decide (IntKind.wrap IntKind.i64 ((↑at_ : Int) + (1 : Int)) ≥ (↑(List.length b) : Int)) = true,
   AV.val (Value.int IntKind.i64 (3 : Int)) = AV.val (Value.int IntKind.i64 (3 : Int))]) := by kernel_rfl

set_option maxRecDepth 100000 in
theorem qg_ldto1 (b : List UInt8) (at_ : Nat) (nx : Int) (ld : Nat) (sz : Nat) (l : List (List UInt8)) : stepXS noneKnown [(46, { op := [(9, 2, .get), (24, 6, .get), (28, 6, .br true)], gd := [(28, 4, true), (28, 5, true)], br := [(24, false), (59, false), (68, true), (75, false), (87, true)], ob := [(9, 2), (24, 6)] })] Try.prog 46 7 (qgG1 b at_ nx ld sz l) (qgEB (4 : Int)) [] 0 [] =
   some (.ret,
   [decide ((↑at_ : Int) ≥ (↑(List.length b) : Int)) = false,
   (0 : Int) ≤ (↑at_ : Int) ∧ at_ < List.length b,
   (IntKind.wrap IntKind.i64 (↑(UInt8.toNat (List.getD b at_ (0 : UInt8))) : Int) == (0 : Int)) = false,
   decide (IntKind.wrap IntKind.i64 (↑(UInt8.toNat (List.getD b at_ (0 : UInt8))) : Int) ≥ (192 : Int)) = true,
   decide (IntKind.wrap IntKind.i64 ((↑at_ : Int) + (1 : Int)) ≥ (↑(List.length b) : Int)) = false,
   (0 : Int) ≤ IntKind.wrap IntKind.i64 ((↑at_ : Int) + (1 : Int)) ∧ Int.toNat (IntKind.wrap IntKind.i64 ((↑at_ : Int) + (1 : Int))) < List.length b,
   decide (nx < (0 : Int)) = true,
   decide (bits BinOp.or IntKind.i64 (IntKind.wrap IntKind.i64 (IntKind.wrap IntKind.i64 (IntKind.wrap IntKind.i64 (↑(UInt8.toNat (List.getD b at_ (0 : UInt8))) : Int) - (192 : Int)) * (256 : Int))) (IntKind.wrap IntKind.i64 (↑(UInt8.toNat (List.getD b (Int.toNat (IntKind.wrap IntKind.i64 ((↑at_ : Int) + (1 : Int)))) (0 : UInt8))) : Int)) ≥ (↑at_ : Int)) = true,
   decide (bits BinOp.or IntKind.i64 (IntKind.wrap IntKind.i64 (IntKind.wrap IntKind.i64 (IntKind.wrap IntKind.i64 (↑(UInt8.toNat (List.getD b at_ (0 : UInt8))) : Int) - (192 : Int)) * (256 : Int))) (IntKind.wrap IntKind.i64 (↑(UInt8.toNat (List.getD b (Int.toNat (IntKind.wrap IntKind.i64 ((↑at_ : Int) + (1 : Int)))) (0 : UInt8))) : Int)) ≥ (↑at_ : Int)) = true,
   decide (bits BinOp.or IntKind.i64 (IntKind.wrap IntKind.i64 (IntKind.wrap IntKind.i64 (IntKind.wrap IntKind.i64 (↑(UInt8.toNat (List.getD b at_ (0 : UInt8))) : Int) - (192 : Int)) * (256 : Int))) (IntKind.wrap IntKind.i64 (↑(UInt8.toNat (List.getD b (Int.toNat (IntKind.wrap IntKind.i64 ((↑at_ : Int) + (1 : Int)))) (0 : UInt8))) : Int)) ≥ (↑at_ : Int)) = true,
   AV.val (Value.int IntKind.i64 (4 : Int)) = AV.val (Value.int IntKind.i64 (4 : Int))]) := by kernel_rfl

set_option maxRecDepth 100000 in
theorem qg_ldmany1 (b : List UInt8) (at_ : Nat) (nx : Int) (ld : Nat) (sz : Nat) (l : List (List UInt8)) : stepXS noneKnown [(46, { op := [(9, 2, .get), (24, 6, .get), (28, 6, .br false)], gd := [(28, 4, false), (28, 5, false)], br := [(24, false), (59, false), (68, true), (75, false), (87, true), (98, true)], ob := [(9, 2), (24, 6)] })] Try.prog 46 7 (qgG1 b at_ nx ld sz l) (qgEB (4 : Int)) [] 0 [] =
   some (.ret,
   [decide ((↑at_ : Int) ≥ (↑(List.length b) : Int)) = false,
   (0 : Int) ≤ (↑at_ : Int) ∧ at_ < List.length b,
   (IntKind.wrap IntKind.i64 (↑(UInt8.toNat (List.getD b at_ (0 : UInt8))) : Int) == (0 : Int)) = false,
   decide (IntKind.wrap IntKind.i64 (↑(UInt8.toNat (List.getD b at_ (0 : UInt8))) : Int) ≥ (192 : Int)) = true,
   decide (IntKind.wrap IntKind.i64 ((↑at_ : Int) + (1 : Int)) ≥ (↑(List.length b) : Int)) = false,
   (0 : Int) ≤ IntKind.wrap IntKind.i64 ((↑at_ : Int) + (1 : Int)) ∧ Int.toNat (IntKind.wrap IntKind.i64 ((↑at_ : Int) + (1 : Int))) < List.length b,
   decide (nx < (0 : Int)) = true,
   decide (bits BinOp.or IntKind.i64 (IntKind.wrap IntKind.i64 (IntKind.wrap IntKind.i64 (IntKind.wrap IntKind.i64 (↑(UInt8.toNat (List.getD b at_ (0 : UInt8))) : Int) - (192 : Int)) * (256 : Int))) (IntKind.wrap IntKind.i64 (↑(UInt8.toNat (List.getD b (Int.toNat (IntKind.wrap IntKind.i64 ((↑at_ : Int) + (1 : Int)))) (0 : UInt8))) : Int)) ≥ (↑at_ : Int)) = false,
   decide (bits BinOp.or IntKind.i64 (IntKind.wrap IntKind.i64 (IntKind.wrap IntKind.i64 (IntKind.wrap IntKind.i64 (↑(UInt8.toNat (List.getD b at_ (0 : UInt8))) : Int) - (192 : Int)) * (256 : Int))) (IntKind.wrap IntKind.i64 (↑(UInt8.toNat (List.getD b (Int.toNat (IntKind.wrap IntKind.i64 ((↑at_ : Int) + (1 : Int)))) (0 : UInt8))) : Int)) ≥ (↑at_ : Int)) = false,
   decide (bits BinOp.or IntKind.i64 (IntKind.wrap IntKind.i64 (IntKind.wrap IntKind.i64 (IntKind.wrap IntKind.i64 (↑(UInt8.toNat (List.getD b at_ (0 : UInt8))) : Int) - (192 : Int)) * (256 : Int))) (IntKind.wrap IntKind.i64 (↑(UInt8.toNat (List.getD b (Int.toNat (IntKind.wrap IntKind.i64 ((↑at_ : Int) + (1 : Int)))) (0 : UInt8))) : Int)) ≥ (↑at_ : Int)) = false,
   decide (IntKind.wrap IntKind.i64 ((↑ld : Int) + (1 : Int)) > (64 : Int)) = true,
   AV.val (Value.int IntKind.i64 (4 : Int)) = AV.val (Value.int IntKind.i64 (4 : Int))]) := by kernel_rfl

set_option maxRecDepth 100000 in
theorem qg_lda1 (b : List UInt8) (at_ : Nat) (nx : Int) (ld : Nat) (sz : Nat) (l : List (List UInt8)) : stepXS noneKnown [(46, { op := [(9, 2, .get), (24, 6, .get), (28, 6, .br false)], gd := [(28, 4, false), (28, 5, false)], br := [(24, false), (59, false), (68, true), (75, false), (87, true), (98, false)], ob := [(9, 2), (24, 6)] })] Try.prog 46 7 (qgG1 b at_ nx ld sz l) (qgG1 b (leadTo b at_) (↑(at_ + (2 : Nat)) : Int) (ld + (1 : Nat)) sz l) [(0 : Nat)] 0 [] =
   some (.normal,
   [decide ((↑at_ : Int) ≥ (↑(List.length b) : Int)) = false,
   (0 : Int) ≤ (↑at_ : Int) ∧ at_ < List.length b,
   (IntKind.wrap IntKind.i64 (↑(UInt8.toNat (List.getD b at_ (0 : UInt8))) : Int) == (0 : Int)) = false,
   decide (IntKind.wrap IntKind.i64 (↑(UInt8.toNat (List.getD b at_ (0 : UInt8))) : Int) ≥ (192 : Int)) = true,
   decide (IntKind.wrap IntKind.i64 ((↑at_ : Int) + (1 : Int)) ≥ (↑(List.length b) : Int)) = false,
   (0 : Int) ≤ IntKind.wrap IntKind.i64 ((↑at_ : Int) + (1 : Int)) ∧ Int.toNat (IntKind.wrap IntKind.i64 ((↑at_ : Int) + (1 : Int))) < List.length b,
   decide (nx < (0 : Int)) = true,
   decide (bits BinOp.or IntKind.i64 (IntKind.wrap IntKind.i64 (IntKind.wrap IntKind.i64 (IntKind.wrap IntKind.i64 (↑(UInt8.toNat (List.getD b at_ (0 : UInt8))) : Int) - (192 : Int)) * (256 : Int))) (IntKind.wrap IntKind.i64 (↑(UInt8.toNat (List.getD b (Int.toNat (IntKind.wrap IntKind.i64 ((↑at_ : Int) + (1 : Int)))) (0 : UInt8))) : Int)) ≥ (↑at_ : Int)) = false,
   decide (bits BinOp.or IntKind.i64 (IntKind.wrap IntKind.i64 (IntKind.wrap IntKind.i64 (IntKind.wrap IntKind.i64 (↑(UInt8.toNat (List.getD b at_ (0 : UInt8))) : Int) - (192 : Int)) * (256 : Int))) (IntKind.wrap IntKind.i64 (↑(UInt8.toNat (List.getD b (Int.toNat (IntKind.wrap IntKind.i64 ((↑at_ : Int) + (1 : Int)))) (0 : UInt8))) : Int)) ≥ (↑at_ : Int)) = false,
   decide (bits BinOp.or IntKind.i64 (IntKind.wrap IntKind.i64 (IntKind.wrap IntKind.i64 (IntKind.wrap IntKind.i64 (↑(UInt8.toNat (List.getD b at_ (0 : UInt8))) : Int) - (192 : Int)) * (256 : Int))) (IntKind.wrap IntKind.i64 (↑(UInt8.toNat (List.getD b (Int.toNat (IntKind.wrap IntKind.i64 ((↑at_ : Int) + (1 : Int)))) (0 : UInt8))) : Int)) ≥ (↑at_ : Int)) = false,
   decide (IntKind.wrap IntKind.i64 ((↑ld : Int) + (1 : Int)) > (64 : Int)) = false,
   AV.sl (0 : Nat) (0 : Nat) (List.length l) none = AV.sl (0 : Nat) (0 : Nat) (List.length l) none,
   AV.bytes b = AV.bytes b,
   AV.val (Value.int IntKind.i64 (bits BinOp.or IntKind.i64 (IntKind.wrap IntKind.i64 (IntKind.wrap IntKind.i64 (IntKind.wrap IntKind.i64 (↑(UInt8.toNat (List.getD b at_ (0 : UInt8))) : Int) - (192 : Int)) * (256 : Int))) (IntKind.wrap IntKind.i64 (↑(UInt8.toNat (List.getD b (Int.toNat (IntKind.wrap IntKind.i64 ((↑at_ : Int) + (1 : Int)))) (0 : UInt8))) : Int)))) = AV.val (Value.int IntKind.i64 (↑(leadTo b at_) : Int)),
   AV.val (Value.int IntKind.i64 (IntKind.wrap IntKind.i64 ((↑at_ : Int) + (2 : Int)))) = AV.val (Value.int IntKind.i64 (↑(at_ + (2 : Nat)) : Int)),
   AV.val (Value.int IntKind.i64 (↑(sz + (1 : Nat)) : Int)) = AV.val (Value.int IntKind.i64 (↑(sz + (1 : Nat)) : Int)),
   AV.val (Value.int IntKind.i64 (IntKind.wrap IntKind.i64 ((↑ld : Int) + (1 : Int)))) = AV.val (Value.int IntKind.i64 (↑(ld + (1 : Nat)) : Int)),
   SameO (some { t := (9 : Nat), sz := (1 : Nat), exact := false, fz := false, body := Body.flat (rowsL l) }) { t := (9 : Nat), sz := (1 : Nat), exact := false, fz := false, body := Body.flat (List.map (fun x => (AV.brecOn_1.go x (AV.ren._f (renX 0 [(0 : Nat)] 50)) (renL._f (renX 0 [(0 : Nat)] 50))).1) (rowsL l)) }]) := by kernel_rfl

set_option maxRecDepth 100000 in
theorem qg_ldb1 (b : List UInt8) (at_ : Nat) (nx : Int) (ld : Nat) (sz : Nat) (l : List (List UInt8)) : stepXS noneKnown [(46, { op := [(9, 2, .get), (24, 6, .get), (28, 6, .br false)], gd := [(28, 4, false), (28, 5, false)], br := [(24, false), (59, false), (68, true), (75, false), (87, false), (98, false)], ob := [(9, 2), (24, 6)] })] Try.prog 46 7 (qgG1 b at_ nx ld sz l) (qgG1 b (leadTo b at_) nx (ld + (1 : Nat)) sz l) [(0 : Nat)] 0 [] =
   some (.normal,
   [decide ((↑at_ : Int) ≥ (↑(List.length b) : Int)) = false,
   (0 : Int) ≤ (↑at_ : Int) ∧ at_ < List.length b,
   (IntKind.wrap IntKind.i64 (↑(UInt8.toNat (List.getD b at_ (0 : UInt8))) : Int) == (0 : Int)) = false,
   decide (IntKind.wrap IntKind.i64 (↑(UInt8.toNat (List.getD b at_ (0 : UInt8))) : Int) ≥ (192 : Int)) = true,
   decide (IntKind.wrap IntKind.i64 ((↑at_ : Int) + (1 : Int)) ≥ (↑(List.length b) : Int)) = false,
   (0 : Int) ≤ IntKind.wrap IntKind.i64 ((↑at_ : Int) + (1 : Int)) ∧ Int.toNat (IntKind.wrap IntKind.i64 ((↑at_ : Int) + (1 : Int))) < List.length b,
   decide (nx < (0 : Int)) = false,
   decide (bits BinOp.or IntKind.i64 (IntKind.wrap IntKind.i64 (IntKind.wrap IntKind.i64 (IntKind.wrap IntKind.i64 (↑(UInt8.toNat (List.getD b at_ (0 : UInt8))) : Int) - (192 : Int)) * (256 : Int))) (IntKind.wrap IntKind.i64 (↑(UInt8.toNat (List.getD b (Int.toNat (IntKind.wrap IntKind.i64 ((↑at_ : Int) + (1 : Int)))) (0 : UInt8))) : Int)) ≥ (↑at_ : Int)) = false,
   decide (bits BinOp.or IntKind.i64 (IntKind.wrap IntKind.i64 (IntKind.wrap IntKind.i64 (IntKind.wrap IntKind.i64 (↑(UInt8.toNat (List.getD b at_ (0 : UInt8))) : Int) - (192 : Int)) * (256 : Int))) (IntKind.wrap IntKind.i64 (↑(UInt8.toNat (List.getD b (Int.toNat (IntKind.wrap IntKind.i64 ((↑at_ : Int) + (1 : Int)))) (0 : UInt8))) : Int)) ≥ (↑at_ : Int)) = false,
   decide (bits BinOp.or IntKind.i64 (IntKind.wrap IntKind.i64 (IntKind.wrap IntKind.i64 (IntKind.wrap IntKind.i64 (↑(UInt8.toNat (List.getD b at_ (0 : UInt8))) : Int) - (192 : Int)) * (256 : Int))) (IntKind.wrap IntKind.i64 (↑(UInt8.toNat (List.getD b (Int.toNat (IntKind.wrap IntKind.i64 ((↑at_ : Int) + (1 : Int)))) (0 : UInt8))) : Int)) ≥ (↑at_ : Int)) = false,
   decide (IntKind.wrap IntKind.i64 ((↑ld : Int) + (1 : Int)) > (64 : Int)) = false,
   AV.sl (0 : Nat) (0 : Nat) (List.length l) none = AV.sl (0 : Nat) (0 : Nat) (List.length l) none,
   AV.bytes b = AV.bytes b,
   AV.val (Value.int IntKind.i64 (bits BinOp.or IntKind.i64 (IntKind.wrap IntKind.i64 (IntKind.wrap IntKind.i64 (IntKind.wrap IntKind.i64 (↑(UInt8.toNat (List.getD b at_ (0 : UInt8))) : Int) - (192 : Int)) * (256 : Int))) (IntKind.wrap IntKind.i64 (↑(UInt8.toNat (List.getD b (Int.toNat (IntKind.wrap IntKind.i64 ((↑at_ : Int) + (1 : Int)))) (0 : UInt8))) : Int)))) = AV.val (Value.int IntKind.i64 (↑(leadTo b at_) : Int)),
   AV.val (Value.int IntKind.i64 nx) = AV.val (Value.int IntKind.i64 nx),
   AV.val (Value.int IntKind.i64 (↑(sz + (1 : Nat)) : Int)) = AV.val (Value.int IntKind.i64 (↑(sz + (1 : Nat)) : Int)),
   AV.val (Value.int IntKind.i64 (IntKind.wrap IntKind.i64 ((↑ld : Int) + (1 : Int)))) = AV.val (Value.int IntKind.i64 (↑(ld + (1 : Nat)) : Int)),
   SameO (some { t := (9 : Nat), sz := (1 : Nat), exact := false, fz := false, body := Body.flat (rowsL l) }) { t := (9 : Nat), sz := (1 : Nat), exact := false, fz := false, body := Body.flat (List.map (fun x => (AV.brecOn_1.go x (AV.ren._f (renX 0 [(0 : Nat)] 47)) (renL._f (renX 0 [(0 : Nat)] 47))).1) (rowsL l)) }]) := by kernel_rfl

set_option maxRecDepth 100000 in
theorem qg_big1 (b : List UInt8) (at_ : Nat) (nx : Int) (ld : Nat) (sz : Nat) (l : List (List UInt8)) : stepXS noneKnown [(46, { op := [(9, 2, .get)], br := [(24, false), (59, false), (68, false), (100, true)], ob := [(9, 2)] })] Try.prog 46 7 (qgG1 b at_ nx ld sz l) (qgEB (4 : Int)) [] 0 [] =
   some (.ret,
   [decide ((↑at_ : Int) ≥ (↑(List.length b) : Int)) = false,
   (0 : Int) ≤ (↑at_ : Int) ∧ at_ < List.length b,
   (IntKind.wrap IntKind.i64 (↑(UInt8.toNat (List.getD b at_ (0 : UInt8))) : Int) == (0 : Int)) = false,
   decide (IntKind.wrap IntKind.i64 (↑(UInt8.toNat (List.getD b at_ (0 : UInt8))) : Int) ≥ (192 : Int)) = false,
   decide (IntKind.wrap IntKind.i64 (↑(UInt8.toNat (List.getD b at_ (0 : UInt8))) : Int) ≥ (64 : Int)) = true,
   AV.val (Value.int IntKind.i64 (4 : Int)) = AV.val (Value.int IntKind.i64 (4 : Int))]) := by kernel_rfl

set_option maxRecDepth 100000 in
theorem qg_labshort1 (b : List UInt8) (at_ : Nat) (nx : Int) (ld : Nat) (sz : Nat) (l : List (List UInt8)) : stepXS noneKnown [(46, { op := [(9, 2, .get)], br := [(24, false), (59, false), (68, false), (100, false), (36, true)], ob := [(9, 2)] })] Try.prog 46 7 (qgG1 b at_ nx ld sz l) (qgEB (3 : Int)) [] 0 [] =
   some (.ret,
   [decide ((↑at_ : Int) ≥ (↑(List.length b) : Int)) = false,
   (0 : Int) ≤ (↑at_ : Int) ∧ at_ < List.length b,
   (IntKind.wrap IntKind.i64 (↑(UInt8.toNat (List.getD b at_ (0 : UInt8))) : Int) == (0 : Int)) = false,
   decide (IntKind.wrap IntKind.i64 (↑(UInt8.toNat (List.getD b at_ (0 : UInt8))) : Int) ≥ (192 : Int)) = false,
   decide (IntKind.wrap IntKind.i64 (↑(UInt8.toNat (List.getD b at_ (0 : UInt8))) : Int) ≥ (64 : Int)) = false,
   decide (IntKind.wrap IntKind.i64 (IntKind.wrap IntKind.i64 ((↑at_ : Int) + (1 : Int)) + IntKind.wrap IntKind.i64 (↑(UInt8.toNat (List.getD b at_ (0 : UInt8))) : Int)) > (↑(List.length b) : Int)) = true,
   AV.val (Value.int IntKind.i64 (3 : Int)) = AV.val (Value.int IntKind.i64 (3 : Int))]) := by kernel_rfl

set_option maxRecDepth 100000 in
theorem qg_labsize1 (b : List UInt8) (at_ : Nat) (nx : Int) (ld : Nat) (sz : Nat) (l : List (List UInt8)) : stepXS noneKnown [(46, { op := [(9, 2, .get)], br := [(24, false), (59, false), (68, false), (100, false), (36, false), (42, true)], ob := [(9, 2)] })] Try.prog 46 7 (qgG1 b at_ nx ld sz l) (qgEB (4 : Int)) [] 0 [] =
   some (.ret,
   [decide ((↑at_ : Int) ≥ (↑(List.length b) : Int)) = false,
   (0 : Int) ≤ (↑at_ : Int) ∧ at_ < List.length b,
   (IntKind.wrap IntKind.i64 (↑(UInt8.toNat (List.getD b at_ (0 : UInt8))) : Int) == (0 : Int)) = false,
   decide (IntKind.wrap IntKind.i64 (↑(UInt8.toNat (List.getD b at_ (0 : UInt8))) : Int) ≥ (192 : Int)) = false,
   decide (IntKind.wrap IntKind.i64 (↑(UInt8.toNat (List.getD b at_ (0 : UInt8))) : Int) ≥ (64 : Int)) = false,
   decide (IntKind.wrap IntKind.i64 (IntKind.wrap IntKind.i64 ((↑at_ : Int) + (1 : Int)) + IntKind.wrap IntKind.i64 (↑(UInt8.toNat (List.getD b at_ (0 : UInt8))) : Int)) > (↑(List.length b) : Int)) = false,
   decide (IntKind.wrap IntKind.i64 (IntKind.wrap IntKind.i64 ((↑(sz + (1 : Nat)) : Int) + (1 : Int)) + IntKind.wrap IntKind.i64 (↑(UInt8.toNat (List.getD b at_ (0 : UInt8))) : Int)) > (255 : Int)) = true,
   AV.val (Value.int IntKind.i64 (4 : Int)) = AV.val (Value.int IntKind.i64 (4 : Int))]) := by kernel_rfl

set_option maxRecDepth 100000 in
theorem qg_lab1 (b : List UInt8) (at_ : Nat) (nx : Int) (ld : Nat) (sz : Nat) (l : List (List UInt8)) : stepXS noneKnown [(46, { op := [(9, 2, .get)], br := [(24, false), (59, false), (68, false), (100, false), (36, false), (42, false)], ob := [(9, 2), (15, 8), (15, 11)] })] Try.prog 46 7 (qgG1 b at_ nx ld sz l) (qgG1 b (at_ + (1 : Nat) + UInt8.toNat (List.getD b at_ (0 : UInt8))) nx ld (sz + (1 : Nat) + UInt8.toNat (List.getD b at_ (0 : UInt8))) (l ++ [List.take (UInt8.toNat (List.getD b at_ (0 : UInt8))) (List.drop (at_ + (1 : Nat)) b)])) [(45 : Nat)] 0 [] =
   some (.normal,
   [decide ((↑at_ : Int) ≥ (↑(List.length b) : Int)) = false,
   (0 : Int) ≤ (↑at_ : Int) ∧ at_ < List.length b,
   (IntKind.wrap IntKind.i64 (↑(UInt8.toNat (List.getD b at_ (0 : UInt8))) : Int) == (0 : Int)) = false,
   decide (IntKind.wrap IntKind.i64 (↑(UInt8.toNat (List.getD b at_ (0 : UInt8))) : Int) ≥ (192 : Int)) = false,
   decide (IntKind.wrap IntKind.i64 (↑(UInt8.toNat (List.getD b at_ (0 : UInt8))) : Int) ≥ (64 : Int)) = false,
   decide (IntKind.wrap IntKind.i64 (IntKind.wrap IntKind.i64 ((↑at_ : Int) + (1 : Int)) + IntKind.wrap IntKind.i64 (↑(UInt8.toNat (List.getD b at_ (0 : UInt8))) : Int)) > (↑(List.length b) : Int)) = false,
   decide (IntKind.wrap IntKind.i64 (IntKind.wrap IntKind.i64 ((↑(sz + (1 : Nat)) : Int) + (1 : Int)) + IntKind.wrap IntKind.i64 (↑(UInt8.toNat (List.getD b at_ (0 : UInt8))) : Int)) > (255 : Int)) = false,
   (0 : Int) ≤ IntKind.wrap IntKind.i64 ((↑at_ : Int) + (1 : Int)),
   (0 : Int) ≤ IntKind.wrap IntKind.i64 (IntKind.wrap IntKind.i64 ((↑at_ : Int) + (1 : Int)) + IntKind.wrap IntKind.i64 (↑(UInt8.toNat (List.getD b at_ (0 : UInt8))) : Int)),
   Int.toNat (IntKind.wrap IntKind.i64 ((↑at_ : Int) + (1 : Int))) ≤ Int.toNat (IntKind.wrap IntKind.i64 (IntKind.wrap IntKind.i64 ((↑at_ : Int) + (1 : Int)) + IntKind.wrap IntKind.i64 (↑(UInt8.toNat (List.getD b at_ (0 : UInt8))) : Int))) ∧ Int.toNat (IntKind.wrap IntKind.i64 (IntKind.wrap IntKind.i64 ((↑at_ : Int) + (1 : Int)) + IntKind.wrap IntKind.i64 (↑(UInt8.toNat (List.getD b at_ (0 : UInt8))) : Int))) ≤ List.length b,
   List.length (rowsL l) = List.length l,
   List.length l + (1 : Nat) ≤ (1000000000 : Nat),
   (List.length l + (1 : Nat)) * (16 : Nat) ≤ (140737488355328 : Nat),
   AV.sl 45 (0 : Nat) (List.length l + (1 : Nat)) none = AV.sl (45 : Nat) (0 : Nat) (List.length (l ++ [List.take (UInt8.toNat (List.getD b at_ (0 : UInt8))) (List.drop (at_ + (1 : Nat)) b)])) none,
   AV.bytes b = AV.bytes b,
   AV.val (Value.int IntKind.i64 (IntKind.wrap IntKind.i64 (IntKind.wrap IntKind.i64 ((↑at_ : Int) + (1 : Int)) + IntKind.wrap IntKind.i64 (↑(UInt8.toNat (List.getD b at_ (0 : UInt8))) : Int)))) = AV.val (Value.int IntKind.i64 (↑(at_ + (1 : Nat) + UInt8.toNat (List.getD b at_ (0 : UInt8))) : Int)),
   AV.val (Value.int IntKind.i64 nx) = AV.val (Value.int IntKind.i64 nx),
   AV.val (Value.int IntKind.i64 (IntKind.wrap IntKind.i64 (IntKind.wrap IntKind.i64 ((↑(sz + (1 : Nat)) : Int) + (1 : Int)) + IntKind.wrap IntKind.i64 (↑(UInt8.toNat (List.getD b at_ (0 : UInt8))) : Int)))) = AV.val (Value.int IntKind.i64 (↑(sz + (1 : Nat) + UInt8.toNat (List.getD b at_ (0 : UInt8)) + (1 : Nat)) : Int)),
   AV.val (Value.int IntKind.i64 (↑ld : Int)) = AV.val (Value.int IntKind.i64 (↑ld : Int)),
   SameO (some { t := (9 : Nat), sz := (1 : Nat), exact := false, fz := false, body := Body.flat (rowsL l ++ [[AV.val (Value.string { data := List.toArray (List.drop (Int.toNat (IntKind.wrap IntKind.i64 ((↑at_ : Int) + (1 : Int)))) (List.take (Int.toNat (IntKind.wrap IntKind.i64 (IntKind.wrap IntKind.i64 ((↑at_ : Int) + (1 : Int)) + IntKind.wrap IntKind.i64 (↑(UInt8.toNat (List.getD b at_ (0 : UInt8))) : Int)))) b)) })]]) }) { t := (9 : Nat), sz := (1 : Nat), exact := false, fz := false, body := Body.flat (List.map (fun x => (AV.brecOn_1.go x (AV.ren._f (renX 0 [(45 : Nat)] 52)) (renL._f (renX 0 [(45 : Nat)] 52))).1) (rowsL (l ++ [List.take (UInt8.toNat (List.getD b at_ (0 : UInt8))) (List.drop (at_ + (1 : Nat)) b)]))) }]) := by kernel_rfl

set_option maxRecDepth 100000 in
theorem qg_ldtob1 (b : List UInt8) (at_ : Nat) (nx : Int) (ld : Nat) (sz : Nat) (l : List (List UInt8)) : stepXS noneKnown [(46, { op := [(9, 2, .get), (24, 6, .get), (28, 6, .br true)], gd := [(28, 4, true), (28, 5, true)], br := [(24, false), (59, false), (68, true), (75, false), (87, false)], ob := [(9, 2), (24, 6)] })] Try.prog 46 7 (qgG1 b at_ nx ld sz l) (qgEB (4 : Int)) [] 0 [] =
   some (.ret,
   [decide ((↑at_ : Int) ≥ (↑(List.length b) : Int)) = false,
   (0 : Int) ≤ (↑at_ : Int) ∧ at_ < List.length b,
   (IntKind.wrap IntKind.i64 (↑(UInt8.toNat (List.getD b at_ (0 : UInt8))) : Int) == (0 : Int)) = false,
   decide (IntKind.wrap IntKind.i64 (↑(UInt8.toNat (List.getD b at_ (0 : UInt8))) : Int) ≥ (192 : Int)) = true,
   decide (IntKind.wrap IntKind.i64 ((↑at_ : Int) + (1 : Int)) ≥ (↑(List.length b) : Int)) = false,
   (0 : Int) ≤ IntKind.wrap IntKind.i64 ((↑at_ : Int) + (1 : Int)) ∧ Int.toNat (IntKind.wrap IntKind.i64 ((↑at_ : Int) + (1 : Int))) < List.length b,
   decide (nx < (0 : Int)) = false,
   decide (bits BinOp.or IntKind.i64 (IntKind.wrap IntKind.i64 (IntKind.wrap IntKind.i64 (IntKind.wrap IntKind.i64 (↑(UInt8.toNat (List.getD b at_ (0 : UInt8))) : Int) - (192 : Int)) * (256 : Int))) (IntKind.wrap IntKind.i64 (↑(UInt8.toNat (List.getD b (Int.toNat (IntKind.wrap IntKind.i64 ((↑at_ : Int) + (1 : Int)))) (0 : UInt8))) : Int)) ≥ (↑at_ : Int)) = true,
   decide (bits BinOp.or IntKind.i64 (IntKind.wrap IntKind.i64 (IntKind.wrap IntKind.i64 (IntKind.wrap IntKind.i64 (↑(UInt8.toNat (List.getD b at_ (0 : UInt8))) : Int) - (192 : Int)) * (256 : Int))) (IntKind.wrap IntKind.i64 (↑(UInt8.toNat (List.getD b (Int.toNat (IntKind.wrap IntKind.i64 ((↑at_ : Int) + (1 : Int)))) (0 : UInt8))) : Int)) ≥ (↑at_ : Int)) = true,
   decide (bits BinOp.or IntKind.i64 (IntKind.wrap IntKind.i64 (IntKind.wrap IntKind.i64 (IntKind.wrap IntKind.i64 (↑(UInt8.toNat (List.getD b at_ (0 : UInt8))) : Int) - (192 : Int)) * (256 : Int))) (IntKind.wrap IntKind.i64 (↑(UInt8.toNat (List.getD b (Int.toNat (IntKind.wrap IntKind.i64 ((↑at_ : Int) + (1 : Int)))) (0 : UInt8))) : Int)) ≥ (↑at_ : Int)) = true,
   AV.val (Value.int IntKind.i64 (4 : Int)) = AV.val (Value.int IntKind.i64 (4 : Int))]) := by kernel_rfl

set_option maxRecDepth 100000 in
theorem qg_ldmanyb1 (b : List UInt8) (at_ : Nat) (nx : Int) (ld : Nat) (sz : Nat) (l : List (List UInt8)) : stepXS noneKnown [(46, { op := [(9, 2, .get), (24, 6, .get), (28, 6, .br false)], gd := [(28, 4, false), (28, 5, false)], br := [(24, false), (59, false), (68, true), (75, false), (87, false), (98, true)], ob := [(9, 2), (24, 6)] })] Try.prog 46 7 (qgG1 b at_ nx ld sz l) (qgEB (4 : Int)) [] 0 [] =
   some (.ret,
   [decide ((↑at_ : Int) ≥ (↑(List.length b) : Int)) = false,
   (0 : Int) ≤ (↑at_ : Int) ∧ at_ < List.length b,
   (IntKind.wrap IntKind.i64 (↑(UInt8.toNat (List.getD b at_ (0 : UInt8))) : Int) == (0 : Int)) = false,
   decide (IntKind.wrap IntKind.i64 (↑(UInt8.toNat (List.getD b at_ (0 : UInt8))) : Int) ≥ (192 : Int)) = true,
   decide (IntKind.wrap IntKind.i64 ((↑at_ : Int) + (1 : Int)) ≥ (↑(List.length b) : Int)) = false,
   (0 : Int) ≤ IntKind.wrap IntKind.i64 ((↑at_ : Int) + (1 : Int)) ∧ Int.toNat (IntKind.wrap IntKind.i64 ((↑at_ : Int) + (1 : Int))) < List.length b,
   decide (nx < (0 : Int)) = false,
   decide (bits BinOp.or IntKind.i64 (IntKind.wrap IntKind.i64 (IntKind.wrap IntKind.i64 (IntKind.wrap IntKind.i64 (↑(UInt8.toNat (List.getD b at_ (0 : UInt8))) : Int) - (192 : Int)) * (256 : Int))) (IntKind.wrap IntKind.i64 (↑(UInt8.toNat (List.getD b (Int.toNat (IntKind.wrap IntKind.i64 ((↑at_ : Int) + (1 : Int)))) (0 : UInt8))) : Int)) ≥ (↑at_ : Int)) = false,
   decide (bits BinOp.or IntKind.i64 (IntKind.wrap IntKind.i64 (IntKind.wrap IntKind.i64 (IntKind.wrap IntKind.i64 (↑(UInt8.toNat (List.getD b at_ (0 : UInt8))) : Int) - (192 : Int)) * (256 : Int))) (IntKind.wrap IntKind.i64 (↑(UInt8.toNat (List.getD b (Int.toNat (IntKind.wrap IntKind.i64 ((↑at_ : Int) + (1 : Int)))) (0 : UInt8))) : Int)) ≥ (↑at_ : Int)) = false,
   decide (bits BinOp.or IntKind.i64 (IntKind.wrap IntKind.i64 (IntKind.wrap IntKind.i64 (IntKind.wrap IntKind.i64 (↑(UInt8.toNat (List.getD b at_ (0 : UInt8))) : Int) - (192 : Int)) * (256 : Int))) (IntKind.wrap IntKind.i64 (↑(UInt8.toNat (List.getD b (Int.toNat (IntKind.wrap IntKind.i64 ((↑at_ : Int) + (1 : Int)))) (0 : UInt8))) : Int)) ≥ (↑at_ : Int)) = false,
   decide (IntKind.wrap IntKind.i64 ((↑ld : Int) + (1 : Int)) > (64 : Int)) = true,
   AV.val (Value.int IntKind.i64 (4 : Int)) = AV.val (Value.int IntKind.i64 (4 : Int))]) := by kernel_rfl

set_option maxRecDepth 100000 in
theorem qg_neg (b : List UInt8) (at_ : Int) : outXS noneKnown [(46, { op := [(1, 7, .br true)], gd := [(1, 3, true), (1, 4, true), (1, 5, true), (1, 6, true)] })] Try.prog 46 [AV.bytes b, AV.val (Value.int IntKind.i64 at_)] [] 0 [] [] =
   some (AV.tup [AV.val (Value.slice none (0 : Nat) (0 : Nat)), AV.val (Value.int IntKind.i64 (0 : Int)), AV.val (Value.int IntKind.i64 (3 : Int))], [], 14,
   [decide (at_ < (0 : Int)) = true,
   decide (at_ < (0 : Int)) = true,
   decide (at_ < (0 : Int)) = true,
   decide (at_ < (0 : Int)) = true,
   decide (at_ < (0 : Int)) = true]) := by kernel_rfl

set_option maxRecDepth 100000 in
theorem qg_far (b : List UInt8) (at_ : Nat) : outXS noneKnown [(46, { br := [(20, true)] })] Try.prog 46 [AV.bytes b, AV.val (Value.int IntKind.i64 (↑at_ : Int))] [] 0 [] [] =
   some (AV.tup [AV.val (Value.slice none (0 : Nat) (0 : Nat)), AV.val (Value.int IntKind.i64 (0 : Int)), AV.val (Value.int IntKind.i64 (3 : Int))], [], 14,
   [decide ((↑at_ : Int) ≥ (↑(List.length b) : Int)) = true]) := by kernel_rfl

set_option maxRecDepth 100000 in
theorem qg_bad (b : List UInt8) (at_ : Nat) (e : Int) : outXS noneKnown [(46, { br := [(20, false)] })] Try.prog 46 [AV.bytes b, AV.val (Value.int IntKind.i64 (↑at_ : Int))] [] 0 [] [(7, qgL b at_ (qgEB e))] =
   some (AV.tup [AV.val (Value.slice none (0 : Nat) (0 : Nat)), AV.val (Value.int IntKind.i64 (0 : Int)), AV.val (Value.int IntKind.i64 e)], [], 0,
   [decide ((↑at_ : Int) ≥ (↑(List.length b) : Int)) = false,
   AV.bytes b = AV.bytes b,
   AV.val (Value.int IntKind.i64 (↑at_ : Int)) = AV.val (Value.int IntKind.i64 (↑at_ : Int)),
   AV.val (Value.int IntKind.i64 (-1 : Int)) = AV.val (Value.int IntKind.i64 (-1 : Int)),
   AV.val (Value.int IntKind.i64 (1 : Int)) = AV.val (Value.int IntKind.i64 (1 : Int)),
   AV.val (Value.int IntKind.i64 (0 : Int)) = AV.val (Value.int IntKind.i64 (0 : Int)),
   EvXL Try.prog 0 (loopAt Try.prog 46 7) (GoalX.st (LoopX.G (qgL b at_ (qgEB e))) 0) (LoopX.ex (qgL b at_ (qgEB e))) (GoalX.st (LoopX.E (qgL b at_ (qgEB e))) 0)]) := by kernel_rfl

set_option maxRecDepth 100000 in
theorem qg_nil (b : List UInt8) (at_ : Nat) (n : Int) : outXS noneKnown [(46, { br := [(20, false)] })] Try.prog 46 [AV.bytes b, AV.val (Value.int IntKind.i64 (↑at_ : Int))] [] 0 [] [(7, qgL b at_ (qgE0 n))] =
   some (AV.tup [AV.val (Value.slice none (0 : Nat) (0 : Nat)), AV.val (Value.int IntKind.i64 n), AV.val (Value.int IntKind.i64 (0 : Int))], [], 0,
   [decide ((↑at_ : Int) ≥ (↑(List.length b) : Int)) = false,
   AV.bytes b = AV.bytes b,
   AV.val (Value.int IntKind.i64 (↑at_ : Int)) = AV.val (Value.int IntKind.i64 (↑at_ : Int)),
   AV.val (Value.int IntKind.i64 (-1 : Int)) = AV.val (Value.int IntKind.i64 (-1 : Int)),
   AV.val (Value.int IntKind.i64 (1 : Int)) = AV.val (Value.int IntKind.i64 (1 : Int)),
   AV.val (Value.int IntKind.i64 (0 : Int)) = AV.val (Value.int IntKind.i64 (0 : Int)),
   EvXL Try.prog 0 (loopAt Try.prog 46 7) (GoalX.st (LoopX.G (qgL b at_ (qgE0 n))) 0) (LoopX.ex (qgL b at_ (qgE0 n))) (GoalX.st (LoopX.E (qgL b at_ (qgE0 n))) 0)]) := by kernel_rfl

set_option maxRecDepth 100000 in
theorem qg_ok (b : List UInt8) (at_ : Nat) (l : List (List UInt8)) (n : Int) : outXS noneKnown [(46, { br := [(20, false)] })] Try.prog 46 [AV.bytes b, AV.val (Value.int IntKind.i64 (↑at_ : Int))] [] 0 [(0 : Nat)] [(7, qgL b at_ (qgE1 l n))] =
   some (AV.tup [AV.sl (0 : Nat) (0 : Nat) (List.length l) none, AV.val (Value.int IntKind.i64 n), AV.val (Value.int IntKind.i64 (0 : Int))], [(0, { t := (9 : Nat), sz := (1 : Nat), exact := false, fz := false, body := Body.flat (rowsL l) })], 1,
   [decide ((↑at_ : Int) ≥ (↑(List.length b) : Int)) = false,
   AV.bytes b = AV.bytes b,
   AV.val (Value.int IntKind.i64 (↑at_ : Int)) = AV.val (Value.int IntKind.i64 (↑at_ : Int)),
   AV.val (Value.int IntKind.i64 (-1 : Int)) = AV.val (Value.int IntKind.i64 (-1 : Int)),
   AV.val (Value.int IntKind.i64 (1 : Int)) = AV.val (Value.int IntKind.i64 (1 : Int)),
   AV.val (Value.int IntKind.i64 (0 : Int)) = AV.val (Value.int IntKind.i64 (0 : Int)),
   EvXL Try.prog 0 (loopAt Try.prog 46 7) (GoalX.st (LoopX.G (qgL b at_ (qgE1 l n))) 0) (LoopX.ex (qgL b at_ (qgE1 l n))) (GoalX.st (LoopX.E (qgL b at_ (qgE1 l n))) 0)]) := by kernel_rfl
end Go.Proofs.Ytmilcpejchjleaa

/- A name that is read, the document's way: what is yielded. -/
namespace Go.Proofs.Ytmilcpejchjleaa
open Go.RowKit
set_option linter.unusedSimpArgs false
set_option linter.unusedVariables false

theorem qg_r_short0 (b : List UInt8) (at_ : Nat) (nx : Int) (ld sz : Nat) (hb : b.length ≤ 1000000000) (hld : ld ≤ 64) (hsz : sz ≤ 254) (h1 : b.length ≤ at_) : EvX Try.prog 0 (loopAt Try.prog 46 7) ((qgG b at_ nx ld sz).st 0) .ret ((qgEB 3).st 0) := by
  have hc := (b.getD at_ 0).toNat_lt
  have hd := (b.getD (at_ + 1) 0).toNat_lt
  refine stepXS_ok noneKnown_ok (qg_short0 b at_ nx ld sz) ?_
  skip
  repeat' (first | exact allNil | refine allCons ?_ ?_ | (with_reducible refine allRp _ ?_ ?_))
  all_goals first | (with_reducible rfl) | exact True.intro | exact decide_eq_true (by omega) | exact decide_eq_false (by omega) | omega | exact beq_eq_false_iff_ne.2 (by omega) | exact beq_iff_eq.2 (by omega) | exact same_flat (fun _ => rfl) rfl | exact same_flat (fun _ => rfl) (by simp [rowsL, sStr]) | (simp [rowsL]; done) | (simp [SameO]; done) | (simp; done) | (simp; omega)
theorem qg_r_enda0 (b : List UInt8) (at_ : Nat) (nx : Int) (ld sz : Nat) (hb : b.length ≤ 1000000000) (hld : ld ≤ 64) (hsz : sz ≤ 254) (h1 : at_ < b.length) (h2 : (b.getD at_ 0).toNat = 0) (h3 : nx < 0) : EvX Try.prog 0 (loopAt Try.prog 46 7) ((qgG b at_ nx ld sz).st 0) .ret ((qgE0 ((at_ + 1 : Nat))).st 0) := by
  have hc := (b.getD at_ 0).toNat_lt
  have hd := (b.getD (at_ + 1) 0).toNat_lt
  refine stepXS_ok noneKnown_ok (qg_enda0 b at_ nx ld sz) ?_
  simp only [wNat (z := ((((b.getD at_ 0).toNat : Nat) : Int))) ((b.getD at_ 0).toNat) (by omega) (by omega), wNat (z := ((at_ : Int) + (1 : Int))) (at_ + 1) (by omega) (by omega), wNat (z := (((b.getD (at_ + 1) 0).toNat : Nat) : Int)) ((b.getD (at_ + 1) 0).toNat) (by omega) (by omega), Int.toNat_natCast, wNat (z := ((ld : Int) + (1 : Int))) (ld + 1) (by omega) (by omega), wNat (z := ((at_ : Int) + (2 : Int))) (at_ + 2) (by omega) (by omega)]
  repeat' (first | exact allNil | refine allCons ?_ ?_ | (with_reducible refine allRp _ ?_ ?_))
  all_goals first | (with_reducible rfl) | exact True.intro | exact decide_eq_true (by omega) | exact decide_eq_false (by omega) | omega | exact beq_eq_false_iff_ne.2 (by omega) | exact beq_iff_eq.2 (by omega) | exact same_flat (fun _ => rfl) rfl | exact same_flat (fun _ => rfl) (by simp [rowsL, sStr]) | (simp [rowsL]; done) | (simp [SameO]; done) | (simp; done) | (simp; omega)
theorem qg_r_endb0 (b : List UInt8) (at_ : Nat) (nx : Int) (ld sz : Nat) (hb : b.length ≤ 1000000000) (hld : ld ≤ 64) (hsz : sz ≤ 254) (h1 : at_ < b.length) (h2 : (b.getD at_ 0).toNat = 0) (h3 : ¬ nx < 0) : EvX Try.prog 0 (loopAt Try.prog 46 7) ((qgG b at_ nx ld sz).st 0) .ret ((qgE0 (nx)).st 0) := by
  have hc := (b.getD at_ 0).toNat_lt
  have hd := (b.getD (at_ + 1) 0).toNat_lt
  refine stepXS_ok noneKnown_ok (qg_endb0 b at_ nx ld sz) ?_
  simp only [wNat (z := ((((b.getD at_ 0).toNat : Nat) : Int))) ((b.getD at_ 0).toNat) (by omega) (by omega), wNat (z := ((at_ : Int) + (1 : Int))) (at_ + 1) (by omega) (by omega), wNat (z := (((b.getD (at_ + 1) 0).toNat : Nat) : Int)) ((b.getD (at_ + 1) 0).toNat) (by omega) (by omega), Int.toNat_natCast, wNat (z := ((ld : Int) + (1 : Int))) (ld + 1) (by omega) (by omega), wNat (z := ((at_ : Int) + (2 : Int))) (at_ + 2) (by omega) (by omega)]
  repeat' (first | exact allNil | refine allCons ?_ ?_ | (with_reducible refine allRp _ ?_ ?_))
  all_goals first | (with_reducible rfl) | exact True.intro | exact decide_eq_true (by omega) | exact decide_eq_false (by omega) | omega | exact beq_eq_false_iff_ne.2 (by omega) | exact beq_iff_eq.2 (by omega) | exact same_flat (fun _ => rfl) rfl | exact same_flat (fun _ => rfl) (by simp [rowsL, sStr]) | (simp [rowsL]; done) | (simp [SameO]; done) | (simp; done) | (simp; omega)
theorem qg_r_ldshort0 (b : List UInt8) (at_ : Nat) (nx : Int) (ld sz : Nat) (hb : b.length ≤ 1000000000) (hld : ld ≤ 64) (hsz : sz ≤ 254) (h1 : at_ < b.length) (h2 : 192 ≤ (b.getD at_ 0).toNat) (h3 : b.length ≤ at_ + 1) : EvX Try.prog 0 (loopAt Try.prog 46 7) ((qgG b at_ nx ld sz).st 0) .ret ((qgEB 3).st 0) := by
  have hc := (b.getD at_ 0).toNat_lt
  have hd := (b.getD (at_ + 1) 0).toNat_lt
  refine stepXS_ok noneKnown_ok (qg_ldshort0 b at_ nx ld sz) ?_
  simp only [wNat (z := ((((b.getD at_ 0).toNat : Nat) : Int))) ((b.getD at_ 0).toNat) (by omega) (by omega), wNat (z := ((at_ : Int) + (1 : Int))) (at_ + 1) (by omega) (by omega), wNat (z := (((b.getD (at_ + 1) 0).toNat : Nat) : Int)) ((b.getD (at_ + 1) 0).toNat) (by omega) (by omega), Int.toNat_natCast, wNat (z := ((ld : Int) + (1 : Int))) (ld + 1) (by omega) (by omega), wNat (z := ((at_ : Int) + (2 : Int))) (at_ + 2) (by omega) (by omega)]
  repeat' (first | exact allNil | refine allCons ?_ ?_ | (with_reducible refine allRp _ ?_ ?_))
  all_goals first | (with_reducible rfl) | exact True.intro | exact decide_eq_true (by omega) | exact decide_eq_false (by omega) | omega | exact beq_eq_false_iff_ne.2 (by omega) | exact beq_iff_eq.2 (by omega) | exact same_flat (fun _ => rfl) rfl | exact same_flat (fun _ => rfl) (by simp [rowsL, sStr]) | (simp [rowsL]; done) | (simp [SameO]; done) | (simp; done) | (simp; omega)
theorem qg_r_ldto0 (b : List UInt8) (at_ : Nat) (nx : Int) (ld sz : Nat) (hb : b.length ≤ 1000000000) (hld : ld ≤ 64) (hsz : sz ≤ 254) (h1 : at_ + 1 < b.length) (h2 : 192 ≤ (b.getD at_ 0).toNat) (h3 : at_ ≤ leadTo b at_) (h4 : nx < 0) : EvX Try.prog 0 (loopAt Try.prog 46 7) ((qgG b at_ nx ld sz).st 0) .ret ((qgEB 4).st 0) := by
  have hc := (b.getD at_ 0).toNat_lt
  have hd := (b.getD (at_ + 1) 0).toNat_lt
  refine stepXS_ok noneKnown_ok (qg_ldto0 b at_ nx ld sz) ?_
  simp only [wNat (z := ((((b.getD at_ 0).toNat : Nat) : Int))) ((b.getD at_ 0).toNat) (by omega) (by omega), wNat (z := ((at_ : Int) + (1 : Int))) (at_ + 1) (by omega) (by omega), wNat (z := (((b.getD (at_ + 1) 0).toNat : Nat) : Int)) ((b.getD (at_ + 1) 0).toNat) (by omega) (by omega), Int.toNat_natCast, wNat (z := ((ld : Int) + (1 : Int))) (ld + 1) (by omega) (by omega), wNat (z := ((at_ : Int) + (2 : Int))) (at_ + 2) (by omega) (by omega), led2 b at_ h2]
  repeat' (first | exact allNil | refine allCons ?_ ?_ | (with_reducible refine allRp _ ?_ ?_))
  all_goals first | (with_reducible rfl) | exact True.intro | exact decide_eq_true (by omega) | exact decide_eq_false (by omega) | omega | exact beq_eq_false_iff_ne.2 (by omega) | exact beq_iff_eq.2 (by omega) | exact same_flat (fun _ => rfl) rfl | exact same_flat (fun _ => rfl) (by simp [rowsL, sStr]) | (simp [rowsL]; done) | (simp [SameO]; done) | (simp; done) | (simp; omega)
theorem qg_r_ldmany0 (b : List UInt8) (at_ : Nat) (nx : Int) (ld sz : Nat) (hb : b.length ≤ 1000000000) (hld : ld ≤ 64) (hsz : sz ≤ 254) (h1 : at_ + 1 < b.length) (h2 : 192 ≤ (b.getD at_ 0).toNat) (h3 : leadTo b at_ < at_) (h4 : 64 ≤ ld) (h5 : nx < 0) : EvX Try.prog 0 (loopAt Try.prog 46 7) ((qgG b at_ nx ld sz).st 0) .ret ((qgEB 4).st 0) := by
  have hc := (b.getD at_ 0).toNat_lt
  have hd := (b.getD (at_ + 1) 0).toNat_lt
  refine stepXS_ok noneKnown_ok (qg_ldmany0 b at_ nx ld sz) ?_
  simp only [wNat (z := ((((b.getD at_ 0).toNat : Nat) : Int))) ((b.getD at_ 0).toNat) (by omega) (by omega), wNat (z := ((at_ : Int) + (1 : Int))) (at_ + 1) (by omega) (by omega), wNat (z := (((b.getD (at_ + 1) 0).toNat : Nat) : Int)) ((b.getD (at_ + 1) 0).toNat) (by omega) (by omega), Int.toNat_natCast, wNat (z := ((ld : Int) + (1 : Int))) (ld + 1) (by omega) (by omega), wNat (z := ((at_ : Int) + (2 : Int))) (at_ + 2) (by omega) (by omega), led2 b at_ h2]
  repeat' (first | exact allNil | refine allCons ?_ ?_ | (with_reducible refine allRp _ ?_ ?_))
  all_goals first | (with_reducible rfl) | exact True.intro | exact decide_eq_true (by omega) | exact decide_eq_false (by omega) | omega | exact beq_eq_false_iff_ne.2 (by omega) | exact beq_iff_eq.2 (by omega) | exact same_flat (fun _ => rfl) rfl | exact same_flat (fun _ => rfl) (by simp [rowsL, sStr]) | (simp [rowsL]; done) | (simp [SameO]; done) | (simp; done) | (simp; omega)
theorem qg_r_lda0 (b : List UInt8) (at_ : Nat) (nx : Int) (ld sz : Nat) (hb : b.length ≤ 1000000000) (hld : ld ≤ 64) (hsz : sz ≤ 254) (h1 : at_ + 1 < b.length) (h2 : 192 ≤ (b.getD at_ 0).toNat) (h3 : leadTo b at_ < at_) (h4 : ld < 64) (h5 : nx < 0) : EvX Try.prog 0 (loopAt Try.prog 46 7) ((qgG b at_ nx ld sz).st 0) .normal ((qgG b (leadTo b at_) ((at_ + 2 : Nat)) (ld + 1) (sz)).st 0) := by
  have hc := (b.getD at_ 0).toNat_lt
  have hd := (b.getD (at_ + 1) 0).toNat_lt
  refine stepXS_ok noneKnown_ok (qg_lda0 b at_ nx ld sz) ?_
  simp only [wNat (z := ((((b.getD at_ 0).toNat : Nat) : Int))) ((b.getD at_ 0).toNat) (by omega) (by omega), wNat (z := ((at_ : Int) + (1 : Int))) (at_ + 1) (by omega) (by omega), wNat (z := (((b.getD (at_ + 1) 0).toNat : Nat) : Int)) ((b.getD (at_ + 1) 0).toNat) (by omega) (by omega), Int.toNat_natCast, wNat (z := ((ld : Int) + (1 : Int))) (ld + 1) (by omega) (by omega), wNat (z := ((at_ : Int) + (2 : Int))) (at_ + 2) (by omega) (by omega), led2 b at_ h2]
  repeat' (first | exact allNil | refine allCons ?_ ?_ | (with_reducible refine allRp _ ?_ ?_))
  all_goals first | (with_reducible rfl) | exact True.intro | exact decide_eq_true (by omega) | exact decide_eq_false (by omega) | omega | exact beq_eq_false_iff_ne.2 (by omega) | exact beq_iff_eq.2 (by omega) | exact same_flat (fun _ => rfl) rfl | exact same_flat (fun _ => rfl) (by simp [rowsL, sStr]) | (simp [rowsL]; done) | (simp [SameO]; done) | (simp; done) | (simp; omega)
theorem qg_r_ldb0 (b : List UInt8) (at_ : Nat) (nx : Int) (ld sz : Nat) (hb : b.length ≤ 1000000000) (hld : ld ≤ 64) (hsz : sz ≤ 254) (h1 : at_ + 1 < b.length) (h2 : 192 ≤ (b.getD at_ 0).toNat) (h3 : leadTo b at_ < at_) (h4 : ld < 64) (h5 : ¬ nx < 0) : EvX Try.prog 0 (loopAt Try.prog 46 7) ((qgG b at_ nx ld sz).st 0) .normal ((qgG b (leadTo b at_) (nx) (ld + 1) (sz)).st 0) := by
  have hc := (b.getD at_ 0).toNat_lt
  have hd := (b.getD (at_ + 1) 0).toNat_lt
  refine stepXS_ok noneKnown_ok (qg_ldb0 b at_ nx ld sz) ?_
  simp only [wNat (z := ((((b.getD at_ 0).toNat : Nat) : Int))) ((b.getD at_ 0).toNat) (by omega) (by omega), wNat (z := ((at_ : Int) + (1 : Int))) (at_ + 1) (by omega) (by omega), wNat (z := (((b.getD (at_ + 1) 0).toNat : Nat) : Int)) ((b.getD (at_ + 1) 0).toNat) (by omega) (by omega), Int.toNat_natCast, wNat (z := ((ld : Int) + (1 : Int))) (ld + 1) (by omega) (by omega), wNat (z := ((at_ : Int) + (2 : Int))) (at_ + 2) (by omega) (by omega), led2 b at_ h2]
  repeat' (first | exact allNil | refine allCons ?_ ?_ | (with_reducible refine allRp _ ?_ ?_))
  all_goals first | (with_reducible rfl) | exact True.intro | exact decide_eq_true (by omega) | exact decide_eq_false (by omega) | omega | exact beq_eq_false_iff_ne.2 (by omega) | exact beq_iff_eq.2 (by omega) | exact same_flat (fun _ => rfl) rfl | exact same_flat (fun _ => rfl) (by simp [rowsL, sStr]) | (simp [rowsL]; done) | (simp [SameO]; done) | (simp; done) | (simp; omega)
theorem qg_r_big0 (b : List UInt8) (at_ : Nat) (nx : Int) (ld sz : Nat) (hb : b.length ≤ 1000000000) (hld : ld ≤ 64) (hsz : sz ≤ 254) (h1 : at_ < b.length) (h2 : (b.getD at_ 0).toNat < 192) (h3 : 64 ≤ (b.getD at_ 0).toNat) : EvX Try.prog 0 (loopAt Try.prog 46 7) ((qgG b at_ nx ld sz).st 0) .ret ((qgEB 4).st 0) := by
  have hc := (b.getD at_ 0).toNat_lt
  have hd := (b.getD (at_ + 1) 0).toNat_lt
  refine stepXS_ok noneKnown_ok (qg_big0 b at_ nx ld sz) ?_
  simp only [wNat (z := ((((b.getD at_ 0).toNat : Nat) : Int))) ((b.getD at_ 0).toNat) (by omega) (by omega), wNat (z := ((at_ : Int) + (1 : Int))) (at_ + 1) (by omega) (by omega), wNat (z := (((b.getD (at_ + 1) 0).toNat : Nat) : Int)) ((b.getD (at_ + 1) 0).toNat) (by omega) (by omega), Int.toNat_natCast, wNat (z := ((ld : Int) + (1 : Int))) (ld + 1) (by omega) (by omega), wNat (z := ((at_ : Int) + (2 : Int))) (at_ + 2) (by omega) (by omega)]
  repeat' (first | exact allNil | refine allCons ?_ ?_ | (with_reducible refine allRp _ ?_ ?_))
  all_goals first | (with_reducible rfl) | exact True.intro | exact decide_eq_true (by omega) | exact decide_eq_false (by omega) | omega | exact beq_eq_false_iff_ne.2 (by omega) | exact beq_iff_eq.2 (by omega) | exact same_flat (fun _ => rfl) rfl | exact same_flat (fun _ => rfl) (by simp [rowsL, sStr]) | (simp [rowsL]; done) | (simp [SameO]; done) | (simp; done) | (simp; omega)
theorem qg_r_labshort0 (b : List UInt8) (at_ : Nat) (nx : Int) (ld sz : Nat) (hb : b.length ≤ 1000000000) (hld : ld ≤ 64) (hsz : sz ≤ 254) (h1 : at_ < b.length) (h2 : (b.getD at_ 0).toNat ≠ 0) (h3 : (b.getD at_ 0).toNat < 64) (h4 : b.length < at_ + 1 + (b.getD at_ 0).toNat) : EvX Try.prog 0 (loopAt Try.prog 46 7) ((qgG b at_ nx ld sz).st 0) .ret ((qgEB 3).st 0) := by
  have hc := (b.getD at_ 0).toNat_lt
  have hd := (b.getD (at_ + 1) 0).toNat_lt
  refine stepXS_ok noneKnown_ok (qg_labshort0 b at_ nx ld sz) ?_
  simp only [wNat (z := ((((b.getD at_ 0).toNat : Nat) : Int))) ((b.getD at_ 0).toNat) (by omega) (by omega), wNat (z := ((at_ : Int) + (1 : Int))) (at_ + 1) (by omega) (by omega), wNat (z := (((b.getD (at_ + 1) 0).toNat : Nat) : Int)) ((b.getD (at_ + 1) 0).toNat) (by omega) (by omega), Int.toNat_natCast, wNat (z := ((ld : Int) + (1 : Int))) (ld + 1) (by omega) (by omega), wNat (z := ((at_ : Int) + (2 : Int))) (at_ + 2) (by omega) (by omega), wNat (z := ((b.length : Int) - (at_ : Int))) (b.length - at_) (by omega) (by omega), wNat (z := (((b.length - at_ : Nat) : Int) - (1 : Int))) (b.length - at_ - 1) (by omega) (by omega), wNat (z := ((1 : Int) + ((((b.getD at_ 0).toNat : Nat) : Int)))) (1 + (b.getD at_ 0).toNat) (by omega) (by omega), wNat (z := ((at_ : Int) + ((1 + (b.getD at_ 0).toNat : Nat) : Int))) (at_ + 1 + (b.getD at_ 0).toNat) (by omega) (by omega), wNat (z := (((at_ + 1 : Nat) : Int) + ((((b.getD at_ 0).toNat : Nat) : Int)))) (at_ + 1 + (b.getD at_ 0).toNat) (by omega) (by omega), wNat (z := ((sz : Int) + ((1 + (b.getD at_ 0).toNat : Nat) : Int))) (sz + 1 + (b.getD at_ 0).toNat) (by omega) (by omega), wNat (z := (((sz + 1 + (b.getD at_ 0).toNat : Nat) : Int) + (1 : Int))) (sz + 1 + (b.getD at_ 0).toNat + 1) (by omega) (by omega), wNat (z := (((sz + 1 : Nat) : Int) + (1 : Int))) (sz + 1 + 1) (by omega) (by omega), wNat (z := (((sz + 1 + 1 : Nat) : Int) + ((((b.getD at_ 0).toNat : Nat) : Int)))) (sz + 1 + (b.getD at_ 0).toNat + 1) (by omega) (by omega), dropTake b (at_ + 1) (b.getD at_ 0).toNat]
  repeat' (first | exact allNil | refine allCons ?_ ?_ | (with_reducible refine allRp _ ?_ ?_))
  all_goals first | (with_reducible rfl) | exact True.intro | exact decide_eq_true (by omega) | exact decide_eq_false (by omega) | omega | exact beq_eq_false_iff_ne.2 (by omega) | exact beq_iff_eq.2 (by omega) | exact same_flat (fun _ => rfl) rfl | exact same_flat (fun _ => rfl) (by simp [rowsL, sStr]) | (simp [rowsL]; done) | (simp [SameO]; done) | (simp; done) | (simp; omega)
theorem qg_r_labsize0 (b : List UInt8) (at_ : Nat) (nx : Int) (ld sz : Nat) (hb : b.length ≤ 1000000000) (hld : ld ≤ 64) (hsz : sz ≤ 254) (h1 : at_ + 1 + (b.getD at_ 0).toNat ≤ b.length) (h2 : (b.getD at_ 0).toNat ≠ 0) (h3 : (b.getD at_ 0).toNat < 64) (h4 : 253 < sz + (b.getD at_ 0).toNat) : EvX Try.prog 0 (loopAt Try.prog 46 7) ((qgG b at_ nx ld sz).st 0) .ret ((qgEB 4).st 0) := by
  have hc := (b.getD at_ 0).toNat_lt
  have hd := (b.getD (at_ + 1) 0).toNat_lt
  refine stepXS_ok noneKnown_ok (qg_labsize0 b at_ nx ld sz) ?_
  simp only [wNat (z := ((((b.getD at_ 0).toNat : Nat) : Int))) ((b.getD at_ 0).toNat) (by omega) (by omega), wNat (z := ((at_ : Int) + (1 : Int))) (at_ + 1) (by omega) (by omega), wNat (z := (((b.getD (at_ + 1) 0).toNat : Nat) : Int)) ((b.getD (at_ + 1) 0).toNat) (by omega) (by omega), Int.toNat_natCast, wNat (z := ((ld : Int) + (1 : Int))) (ld + 1) (by omega) (by omega), wNat (z := ((at_ : Int) + (2 : Int))) (at_ + 2) (by omega) (by omega), wNat (z := ((b.length : Int) - (at_ : Int))) (b.length - at_) (by omega) (by omega), wNat (z := (((b.length - at_ : Nat) : Int) - (1 : Int))) (b.length - at_ - 1) (by omega) (by omega), wNat (z := ((1 : Int) + ((((b.getD at_ 0).toNat : Nat) : Int)))) (1 + (b.getD at_ 0).toNat) (by omega) (by omega), wNat (z := ((at_ : Int) + ((1 + (b.getD at_ 0).toNat : Nat) : Int))) (at_ + 1 + (b.getD at_ 0).toNat) (by omega) (by omega), wNat (z := (((at_ + 1 : Nat) : Int) + ((((b.getD at_ 0).toNat : Nat) : Int)))) (at_ + 1 + (b.getD at_ 0).toNat) (by omega) (by omega), wNat (z := ((sz : Int) + ((1 + (b.getD at_ 0).toNat : Nat) : Int))) (sz + 1 + (b.getD at_ 0).toNat) (by omega) (by omega), wNat (z := (((sz + 1 + (b.getD at_ 0).toNat : Nat) : Int) + (1 : Int))) (sz + 1 + (b.getD at_ 0).toNat + 1) (by omega) (by omega), wNat (z := (((sz + 1 : Nat) : Int) + (1 : Int))) (sz + 1 + 1) (by omega) (by omega), wNat (z := (((sz + 1 + 1 : Nat) : Int) + ((((b.getD at_ 0).toNat : Nat) : Int)))) (sz + 1 + (b.getD at_ 0).toNat + 1) (by omega) (by omega), dropTake b (at_ + 1) (b.getD at_ 0).toNat]
  repeat' (first | exact allNil | refine allCons ?_ ?_ | (with_reducible refine allRp _ ?_ ?_))
  all_goals first | (with_reducible rfl) | exact True.intro | exact decide_eq_true (by omega) | exact decide_eq_false (by omega) | omega | exact beq_eq_false_iff_ne.2 (by omega) | exact beq_iff_eq.2 (by omega) | exact same_flat (fun _ => rfl) rfl | exact same_flat (fun _ => rfl) (by simp [rowsL, sStr]) | (simp [rowsL]; done) | (simp [SameO]; done) | (simp; done) | (simp; omega)
theorem qg_r_lab0 (b : List UInt8) (at_ : Nat) (nx : Int) (ld sz : Nat) (hb : b.length ≤ 1000000000) (hld : ld ≤ 64) (hsz : sz ≤ 254) (h1 : at_ + 1 + (b.getD at_ 0).toNat ≤ b.length) (h2 : (b.getD at_ 0).toNat ≠ 0) (h3 : (b.getD at_ 0).toNat < 64) (h4 : sz + (b.getD at_ 0).toNat ≤ 253) : EvX Try.prog 0 (loopAt Try.prog 46 7) ((qgG b at_ nx ld sz).st 0) .normal ((qgG1r b (at_ + 1 + (b.getD at_ 0).toNat) nx ld (sz + 1 + (b.getD at_ 0).toNat) [(b.drop (at_ + 1)).take (b.getD at_ 0).toNat]).st 0) := by
  have hc := (b.getD at_ 0).toNat_lt
  have hd := (b.getD (at_ + 1) 0).toNat_lt
  refine stepXS_ok noneKnown_ok (qg_lab0 b at_ nx ld sz) ?_
  simp only [wNat (z := ((((b.getD at_ 0).toNat : Nat) : Int))) ((b.getD at_ 0).toNat) (by omega) (by omega), wNat (z := ((at_ : Int) + (1 : Int))) (at_ + 1) (by omega) (by omega), wNat (z := (((b.getD (at_ + 1) 0).toNat : Nat) : Int)) ((b.getD (at_ + 1) 0).toNat) (by omega) (by omega), Int.toNat_natCast, wNat (z := ((ld : Int) + (1 : Int))) (ld + 1) (by omega) (by omega), wNat (z := ((at_ : Int) + (2 : Int))) (at_ + 2) (by omega) (by omega), wNat (z := ((b.length : Int) - (at_ : Int))) (b.length - at_) (by omega) (by omega), wNat (z := (((b.length - at_ : Nat) : Int) - (1 : Int))) (b.length - at_ - 1) (by omega) (by omega), wNat (z := ((1 : Int) + ((((b.getD at_ 0).toNat : Nat) : Int)))) (1 + (b.getD at_ 0).toNat) (by omega) (by omega), wNat (z := ((at_ : Int) + ((1 + (b.getD at_ 0).toNat : Nat) : Int))) (at_ + 1 + (b.getD at_ 0).toNat) (by omega) (by omega), wNat (z := (((at_ + 1 : Nat) : Int) + ((((b.getD at_ 0).toNat : Nat) : Int)))) (at_ + 1 + (b.getD at_ 0).toNat) (by omega) (by omega), wNat (z := ((sz : Int) + ((1 + (b.getD at_ 0).toNat : Nat) : Int))) (sz + 1 + (b.getD at_ 0).toNat) (by omega) (by omega), wNat (z := (((sz + 1 + (b.getD at_ 0).toNat : Nat) : Int) + (1 : Int))) (sz + 1 + (b.getD at_ 0).toNat + 1) (by omega) (by omega), wNat (z := (((sz + 1 : Nat) : Int) + (1 : Int))) (sz + 1 + 1) (by omega) (by omega), wNat (z := (((sz + 1 + 1 : Nat) : Int) + ((((b.getD at_ 0).toNat : Nat) : Int)))) (sz + 1 + (b.getD at_ 0).toNat + 1) (by omega) (by omega), dropTake b (at_ + 1) (b.getD at_ 0).toNat]
  repeat' (first | exact allNil | refine allCons ?_ ?_ | (with_reducible refine allRp _ ?_ ?_))
  all_goals first | (with_reducible rfl) | exact True.intro | exact decide_eq_true (by omega) | exact decide_eq_false (by omega) | omega | exact beq_eq_false_iff_ne.2 (by omega) | exact beq_iff_eq.2 (by omega) | exact same_flat (fun _ => rfl) rfl | exact same_flat (fun _ => rfl) (by simp [rowsL, sStr]) | (simp [rowsL]; done) | (simp [SameO]; done) | (simp; done) | (simp; omega)
theorem qg_r_ldtob0 (b : List UInt8) (at_ : Nat) (nx : Int) (ld sz : Nat) (hb : b.length ≤ 1000000000) (hld : ld ≤ 64) (hsz : sz ≤ 254) (h1 : at_ + 1 < b.length) (h2 : 192 ≤ (b.getD at_ 0).toNat) (h3 : at_ ≤ leadTo b at_) (h4 : ¬ nx < 0) : EvX Try.prog 0 (loopAt Try.prog 46 7) ((qgG b at_ nx ld sz).st 0) .ret ((qgEB 4).st 0) := by
  have hc := (b.getD at_ 0).toNat_lt
  have hd := (b.getD (at_ + 1) 0).toNat_lt
  refine stepXS_ok noneKnown_ok (qg_ldtob0 b at_ nx ld sz) ?_
  simp only [wNat (z := ((((b.getD at_ 0).toNat : Nat) : Int))) ((b.getD at_ 0).toNat) (by omega) (by omega), wNat (z := ((at_ : Int) + (1 : Int))) (at_ + 1) (by omega) (by omega), wNat (z := (((b.getD (at_ + 1) 0).toNat : Nat) : Int)) ((b.getD (at_ + 1) 0).toNat) (by omega) (by omega), Int.toNat_natCast, wNat (z := ((ld : Int) + (1 : Int))) (ld + 1) (by omega) (by omega), wNat (z := ((at_ : Int) + (2 : Int))) (at_ + 2) (by omega) (by omega), led2 b at_ h2]
  repeat' (first | exact allNil | refine allCons ?_ ?_ | (with_reducible refine allRp _ ?_ ?_))
  all_goals first | (with_reducible rfl) | exact True.intro | exact decide_eq_true (by omega) | exact decide_eq_false (by omega) | omega | exact beq_eq_false_iff_ne.2 (by omega) | exact beq_iff_eq.2 (by omega) | exact same_flat (fun _ => rfl) rfl | exact same_flat (fun _ => rfl) (by simp [rowsL, sStr]) | (simp [rowsL]; done) | (simp [SameO]; done) | (simp; done) | (simp; omega)
theorem qg_r_ldmanyb0 (b : List UInt8) (at_ : Nat) (nx : Int) (ld sz : Nat) (hb : b.length ≤ 1000000000) (hld : ld ≤ 64) (hsz : sz ≤ 254) (h1 : at_ + 1 < b.length) (h2 : 192 ≤ (b.getD at_ 0).toNat) (h3 : leadTo b at_ < at_) (h4 : 64 ≤ ld) (h5 : ¬ nx < 0) : EvX Try.prog 0 (loopAt Try.prog 46 7) ((qgG b at_ nx ld sz).st 0) .ret ((qgEB 4).st 0) := by
  have hc := (b.getD at_ 0).toNat_lt
  have hd := (b.getD (at_ + 1) 0).toNat_lt
  refine stepXS_ok noneKnown_ok (qg_ldmanyb0 b at_ nx ld sz) ?_
  simp only [wNat (z := ((((b.getD at_ 0).toNat : Nat) : Int))) ((b.getD at_ 0).toNat) (by omega) (by omega), wNat (z := ((at_ : Int) + (1 : Int))) (at_ + 1) (by omega) (by omega), wNat (z := (((b.getD (at_ + 1) 0).toNat : Nat) : Int)) ((b.getD (at_ + 1) 0).toNat) (by omega) (by omega), Int.toNat_natCast, wNat (z := ((ld : Int) + (1 : Int))) (ld + 1) (by omega) (by omega), wNat (z := ((at_ : Int) + (2 : Int))) (at_ + 2) (by omega) (by omega), led2 b at_ h2]
  repeat' (first | exact allNil | refine allCons ?_ ?_ | (with_reducible refine allRp _ ?_ ?_))
  all_goals first | (with_reducible rfl) | exact True.intro | exact decide_eq_true (by omega) | exact decide_eq_false (by omega) | omega | exact beq_eq_false_iff_ne.2 (by omega) | exact beq_iff_eq.2 (by omega) | exact same_flat (fun _ => rfl) rfl | exact same_flat (fun _ => rfl) (by simp [rowsL, sStr]) | (simp [rowsL]; done) | (simp [SameO]; done) | (simp; done) | (simp; omega)
theorem qg_r_short1 (b : List UInt8) (at_ : Nat) (nx : Int) (ld sz : Nat) (l : List (List UInt8)) (hb : b.length ≤ 1000000000) (hld : ld ≤ 64) (hsz : sz ≤ 254) (hll : l.length ≤ 254) (h1 : b.length ≤ at_) : EvX Try.prog 0 (loopAt Try.prog 46 7) ((qgG1 b at_ nx ld sz l).st 0) .ret ((qgEB 3).st 0) := by
  have hc := (b.getD at_ 0).toNat_lt
  have hd := (b.getD (at_ + 1) 0).toNat_lt
  refine stepXS_ok noneKnown_ok (qg_short1 b at_ nx ld sz l) ?_
  skip
  repeat' (first | exact allNil | refine allCons ?_ ?_ | (with_reducible refine allRp _ ?_ ?_))
  all_goals first | (with_reducible rfl) | exact True.intro | exact decide_eq_true (by omega) | exact decide_eq_false (by omega) | omega | exact beq_eq_false_iff_ne.2 (by omega) | exact beq_iff_eq.2 (by omega) | exact same_flat (fun _ => rfl) rfl | exact same_flat (fun _ => rfl) (by simp [rowsL, sStr]) | (simp [rowsL]; done) | (simp [SameO]; done) | (simp; done) | (simp; omega)
theorem qg_r_enda1 (b : List UInt8) (at_ : Nat) (nx : Int) (ld sz : Nat) (l : List (List UInt8)) (hb : b.length ≤ 1000000000) (hld : ld ≤ 64) (hsz : sz ≤ 254) (hll : l.length ≤ 254) (h1 : at_ < b.length) (h2 : (b.getD at_ 0).toNat = 0) (h3 : nx < 0) : EvX Try.prog 0 (loopAt Try.prog 46 7) ((qgG1 b at_ nx ld sz l).st 0) .ret ((qgE1 l ((at_ + 1 : Nat))).st 0) := by
  have hc := (b.getD at_ 0).toNat_lt
  have hd := (b.getD (at_ + 1) 0).toNat_lt
  refine stepXS_ok noneKnown_ok (qg_enda1 b at_ nx ld sz l) ?_
  simp only [wNat (z := ((((b.getD at_ 0).toNat : Nat) : Int))) ((b.getD at_ 0).toNat) (by omega) (by omega), wNat (z := ((at_ : Int) + (1 : Int))) (at_ + 1) (by omega) (by omega), wNat (z := (((b.getD (at_ + 1) 0).toNat : Nat) : Int)) ((b.getD (at_ + 1) 0).toNat) (by omega) (by omega), Int.toNat_natCast, wNat (z := ((ld : Int) + (1 : Int))) (ld + 1) (by omega) (by omega), wNat (z := ((at_ : Int) + (2 : Int))) (at_ + 2) (by omega) (by omega)]
  repeat' (first | exact allNil | refine allCons ?_ ?_ | (with_reducible refine allRp _ ?_ ?_))
  all_goals first | (with_reducible rfl) | exact True.intro | exact decide_eq_true (by omega) | exact decide_eq_false (by omega) | omega | exact beq_eq_false_iff_ne.2 (by omega) | exact beq_iff_eq.2 (by omega) | exact same_flat (fun _ => rfl) rfl | exact same_flat (fun _ => rfl) (by simp [rowsL, sStr]) | (simp [rowsL]; done) | (simp [SameO]; done) | (simp; done) | (simp; omega)
theorem qg_r_endb1 (b : List UInt8) (at_ : Nat) (nx : Int) (ld sz : Nat) (l : List (List UInt8)) (hb : b.length ≤ 1000000000) (hld : ld ≤ 64) (hsz : sz ≤ 254) (hll : l.length ≤ 254) (h1 : at_ < b.length) (h2 : (b.getD at_ 0).toNat = 0) (h3 : ¬ nx < 0) : EvX Try.prog 0 (loopAt Try.prog 46 7) ((qgG1 b at_ nx ld sz l).st 0) .ret ((qgE1 l (nx)).st 0) := by
  have hc := (b.getD at_ 0).toNat_lt
  have hd := (b.getD (at_ + 1) 0).toNat_lt
  refine stepXS_ok noneKnown_ok (qg_endb1 b at_ nx ld sz l) ?_
  simp only [wNat (z := ((((b.getD at_ 0).toNat : Nat) : Int))) ((b.getD at_ 0).toNat) (by omega) (by omega), wNat (z := ((at_ : Int) + (1 : Int))) (at_ + 1) (by omega) (by omega), wNat (z := (((b.getD (at_ + 1) 0).toNat : Nat) : Int)) ((b.getD (at_ + 1) 0).toNat) (by omega) (by omega), Int.toNat_natCast, wNat (z := ((ld : Int) + (1 : Int))) (ld + 1) (by omega) (by omega), wNat (z := ((at_ : Int) + (2 : Int))) (at_ + 2) (by omega) (by omega)]
  repeat' (first | exact allNil | refine allCons ?_ ?_ | (with_reducible refine allRp _ ?_ ?_))
  all_goals first | (with_reducible rfl) | exact True.intro | exact decide_eq_true (by omega) | exact decide_eq_false (by omega) | omega | exact beq_eq_false_iff_ne.2 (by omega) | exact beq_iff_eq.2 (by omega) | exact same_flat (fun _ => rfl) rfl | exact same_flat (fun _ => rfl) (by simp [rowsL, sStr]) | (simp [rowsL]; done) | (simp [SameO]; done) | (simp; done) | (simp; omega)
theorem qg_r_ldshort1 (b : List UInt8) (at_ : Nat) (nx : Int) (ld sz : Nat) (l : List (List UInt8)) (hb : b.length ≤ 1000000000) (hld : ld ≤ 64) (hsz : sz ≤ 254) (hll : l.length ≤ 254) (h1 : at_ < b.length) (h2 : 192 ≤ (b.getD at_ 0).toNat) (h3 : b.length ≤ at_ + 1) : EvX Try.prog 0 (loopAt Try.prog 46 7) ((qgG1 b at_ nx ld sz l).st 0) .ret ((qgEB 3).st 0) := by
  have hc := (b.getD at_ 0).toNat_lt
  have hd := (b.getD (at_ + 1) 0).toNat_lt
  refine stepXS_ok noneKnown_ok (qg_ldshort1 b at_ nx ld sz l) ?_
  simp only [wNat (z := ((((b.getD at_ 0).toNat : Nat) : Int))) ((b.getD at_ 0).toNat) (by omega) (by omega), wNat (z := ((at_ : Int) + (1 : Int))) (at_ + 1) (by omega) (by omega), wNat (z := (((b.getD (at_ + 1) 0).toNat : Nat) : Int)) ((b.getD (at_ + 1) 0).toNat) (by omega) (by omega), Int.toNat_natCast, wNat (z := ((ld : Int) + (1 : Int))) (ld + 1) (by omega) (by omega), wNat (z := ((at_ : Int) + (2 : Int))) (at_ + 2) (by omega) (by omega)]
  repeat' (first | exact allNil | refine allCons ?_ ?_ | (with_reducible refine allRp _ ?_ ?_))
  all_goals first | (with_reducible rfl) | exact True.intro | exact decide_eq_true (by omega) | exact decide_eq_false (by omega) | omega | exact beq_eq_false_iff_ne.2 (by omega) | exact beq_iff_eq.2 (by omega) | exact same_flat (fun _ => rfl) rfl | exact same_flat (fun _ => rfl) (by simp [rowsL, sStr]) | (simp [rowsL]; done) | (simp [SameO]; done) | (simp; done) | (simp; omega)
theorem qg_r_ldto1 (b : List UInt8) (at_ : Nat) (nx : Int) (ld sz : Nat) (l : List (List UInt8)) (hb : b.length ≤ 1000000000) (hld : ld ≤ 64) (hsz : sz ≤ 254) (hll : l.length ≤ 254) (h1 : at_ + 1 < b.length) (h2 : 192 ≤ (b.getD at_ 0).toNat) (h3 : at_ ≤ leadTo b at_) (h4 : nx < 0) : EvX Try.prog 0 (loopAt Try.prog 46 7) ((qgG1 b at_ nx ld sz l).st 0) .ret ((qgEB 4).st 0) := by
  have hc := (b.getD at_ 0).toNat_lt
  have hd := (b.getD (at_ + 1) 0).toNat_lt
  refine stepXS_ok noneKnown_ok (qg_ldto1 b at_ nx ld sz l) ?_
  simp only [wNat (z := ((((b.getD at_ 0).toNat : Nat) : Int))) ((b.getD at_ 0).toNat) (by omega) (by omega), wNat (z := ((at_ : Int) + (1 : Int))) (at_ + 1) (by omega) (by omega), wNat (z := (((b.getD (at_ + 1) 0).toNat : Nat) : Int)) ((b.getD (at_ + 1) 0).toNat) (by omega) (by omega), Int.toNat_natCast, wNat (z := ((ld : Int) + (1 : Int))) (ld + 1) (by omega) (by omega), wNat (z := ((at_ : Int) + (2 : Int))) (at_ + 2) (by omega) (by omega), led2 b at_ h2]
  repeat' (first | exact allNil | refine allCons ?_ ?_ | (with_reducible refine allRp _ ?_ ?_))
  all_goals first | (with_reducible rfl) | exact True.intro | exact decide_eq_true (by omega) | exact decide_eq_false (by omega) | omega | exact beq_eq_false_iff_ne.2 (by omega) | exact beq_iff_eq.2 (by omega) | exact same_flat (fun _ => rfl) rfl | exact same_flat (fun _ => rfl) (by simp [rowsL, sStr]) | (simp [rowsL]; done) | (simp [SameO]; done) | (simp; done) | (simp; omega)
theorem qg_r_ldmany1 (b : List UInt8) (at_ : Nat) (nx : Int) (ld sz : Nat) (l : List (List UInt8)) (hb : b.length ≤ 1000000000) (hld : ld ≤ 64) (hsz : sz ≤ 254) (hll : l.length ≤ 254) (h1 : at_ + 1 < b.length) (h2 : 192 ≤ (b.getD at_ 0).toNat) (h3 : leadTo b at_ < at_) (h4 : 64 ≤ ld) (h5 : nx < 0) : EvX Try.prog 0 (loopAt Try.prog 46 7) ((qgG1 b at_ nx ld sz l).st 0) .ret ((qgEB 4).st 0) := by
  have hc := (b.getD at_ 0).toNat_lt
  have hd := (b.getD (at_ + 1) 0).toNat_lt
  refine stepXS_ok noneKnown_ok (qg_ldmany1 b at_ nx ld sz l) ?_
  simp only [wNat (z := ((((b.getD at_ 0).toNat : Nat) : Int))) ((b.getD at_ 0).toNat) (by omega) (by omega), wNat (z := ((at_ : Int) + (1 : Int))) (at_ + 1) (by omega) (by omega), wNat (z := (((b.getD (at_ + 1) 0).toNat : Nat) : Int)) ((b.getD (at_ + 1) 0).toNat) (by omega) (by omega), Int.toNat_natCast, wNat (z := ((ld : Int) + (1 : Int))) (ld + 1) (by omega) (by omega), wNat (z := ((at_ : Int) + (2 : Int))) (at_ + 2) (by omega) (by omega), led2 b at_ h2]
  repeat' (first | exact allNil | refine allCons ?_ ?_ | (with_reducible refine allRp _ ?_ ?_))
  all_goals first | (with_reducible rfl) | exact True.intro | exact decide_eq_true (by omega) | exact decide_eq_false (by omega) | omega | exact beq_eq_false_iff_ne.2 (by omega) | exact beq_iff_eq.2 (by omega) | exact same_flat (fun _ => rfl) rfl | exact same_flat (fun _ => rfl) (by simp [rowsL, sStr]) | (simp [rowsL]; done) | (simp [SameO]; done) | (simp; done) | (simp; omega)
theorem qg_r_lda1 (b : List UInt8) (at_ : Nat) (nx : Int) (ld sz : Nat) (l : List (List UInt8)) (hb : b.length ≤ 1000000000) (hld : ld ≤ 64) (hsz : sz ≤ 254) (hll : l.length ≤ 254) (h1 : at_ + 1 < b.length) (h2 : 192 ≤ (b.getD at_ 0).toNat) (h3 : leadTo b at_ < at_) (h4 : ld < 64) (h5 : nx < 0) : EvX Try.prog 0 (loopAt Try.prog 46 7) ((qgG1 b at_ nx ld sz l).st 0) .normal ((qgG1 b (leadTo b at_) ((at_ + 2 : Nat)) (ld + 1) (sz) l).st 0) := by
  have hc := (b.getD at_ 0).toNat_lt
  have hd := (b.getD (at_ + 1) 0).toNat_lt
  refine stepXS_ok noneKnown_ok (qg_lda1 b at_ nx ld sz l) ?_
  simp only [wNat (z := ((((b.getD at_ 0).toNat : Nat) : Int))) ((b.getD at_ 0).toNat) (by omega) (by omega), wNat (z := ((at_ : Int) + (1 : Int))) (at_ + 1) (by omega) (by omega), wNat (z := (((b.getD (at_ + 1) 0).toNat : Nat) : Int)) ((b.getD (at_ + 1) 0).toNat) (by omega) (by omega), Int.toNat_natCast, wNat (z := ((ld : Int) + (1 : Int))) (ld + 1) (by omega) (by omega), wNat (z := ((at_ : Int) + (2 : Int))) (at_ + 2) (by omega) (by omega), led2 b at_ h2]
  repeat' (first | exact allNil | refine allCons ?_ ?_ | (with_reducible refine allRp _ ?_ ?_))
  all_goals first | (with_reducible rfl) | exact True.intro | exact decide_eq_true (by omega) | exact decide_eq_false (by omega) | omega | exact beq_eq_false_iff_ne.2 (by omega) | exact beq_iff_eq.2 (by omega) | exact same_flat (fun _ => rfl) rfl | exact same_flat (fun _ => rfl) (by simp [rowsL, sStr]) | (simp [rowsL]; done) | (simp [SameO]; done) | (simp; done) | (simp; omega)
theorem qg_r_ldb1 (b : List UInt8) (at_ : Nat) (nx : Int) (ld sz : Nat) (l : List (List UInt8)) (hb : b.length ≤ 1000000000) (hld : ld ≤ 64) (hsz : sz ≤ 254) (hll : l.length ≤ 254) (h1 : at_ + 1 < b.length) (h2 : 192 ≤ (b.getD at_ 0).toNat) (h3 : leadTo b at_ < at_) (h4 : ld < 64) (h5 : ¬ nx < 0) : EvX Try.prog 0 (loopAt Try.prog 46 7) ((qgG1 b at_ nx ld sz l).st 0) .normal ((qgG1 b (leadTo b at_) (nx) (ld + 1) (sz) l).st 0) := by
  have hc := (b.getD at_ 0).toNat_lt
  have hd := (b.getD (at_ + 1) 0).toNat_lt
  refine stepXS_ok noneKnown_ok (qg_ldb1 b at_ nx ld sz l) ?_
  simp only [wNat (z := ((((b.getD at_ 0).toNat : Nat) : Int))) ((b.getD at_ 0).toNat) (by omega) (by omega), wNat (z := ((at_ : Int) + (1 : Int))) (at_ + 1) (by omega) (by omega), wNat (z := (((b.getD (at_ + 1) 0).toNat : Nat) : Int)) ((b.getD (at_ + 1) 0).toNat) (by omega) (by omega), Int.toNat_natCast, wNat (z := ((ld : Int) + (1 : Int))) (ld + 1) (by omega) (by omega), wNat (z := ((at_ : Int) + (2 : Int))) (at_ + 2) (by omega) (by omega), led2 b at_ h2]
  repeat' (first | exact allNil | refine allCons ?_ ?_ | (with_reducible refine allRp _ ?_ ?_))
  all_goals first | (with_reducible rfl) | exact True.intro | exact decide_eq_true (by omega) | exact decide_eq_false (by omega) | omega | exact beq_eq_false_iff_ne.2 (by omega) | exact beq_iff_eq.2 (by omega) | exact same_flat (fun _ => rfl) rfl | exact same_flat (fun _ => rfl) (by simp [rowsL, sStr]) | (simp [rowsL]; done) | (simp [SameO]; done) | (simp; done) | (simp; omega)
theorem qg_r_big1 (b : List UInt8) (at_ : Nat) (nx : Int) (ld sz : Nat) (l : List (List UInt8)) (hb : b.length ≤ 1000000000) (hld : ld ≤ 64) (hsz : sz ≤ 254) (hll : l.length ≤ 254) (h1 : at_ < b.length) (h2 : (b.getD at_ 0).toNat < 192) (h3 : 64 ≤ (b.getD at_ 0).toNat) : EvX Try.prog 0 (loopAt Try.prog 46 7) ((qgG1 b at_ nx ld sz l).st 0) .ret ((qgEB 4).st 0) := by
  have hc := (b.getD at_ 0).toNat_lt
  have hd := (b.getD (at_ + 1) 0).toNat_lt
  refine stepXS_ok noneKnown_ok (qg_big1 b at_ nx ld sz l) ?_
  simp only [wNat (z := ((((b.getD at_ 0).toNat : Nat) : Int))) ((b.getD at_ 0).toNat) (by omega) (by omega), wNat (z := ((at_ : Int) + (1 : Int))) (at_ + 1) (by omega) (by omega), wNat (z := (((b.getD (at_ + 1) 0).toNat : Nat) : Int)) ((b.getD (at_ + 1) 0).toNat) (by omega) (by omega), Int.toNat_natCast, wNat (z := ((ld : Int) + (1 : Int))) (ld + 1) (by omega) (by omega), wNat (z := ((at_ : Int) + (2 : Int))) (at_ + 2) (by omega) (by omega)]
  repeat' (first | exact allNil | refine allCons ?_ ?_ | (with_reducible refine allRp _ ?_ ?_))
  all_goals first | (with_reducible rfl) | exact True.intro | exact decide_eq_true (by omega) | exact decide_eq_false (by omega) | omega | exact beq_eq_false_iff_ne.2 (by omega) | exact beq_iff_eq.2 (by omega) | exact same_flat (fun _ => rfl) rfl | exact same_flat (fun _ => rfl) (by simp [rowsL, sStr]) | (simp [rowsL]; done) | (simp [SameO]; done) | (simp; done) | (simp; omega)
theorem qg_r_labshort1 (b : List UInt8) (at_ : Nat) (nx : Int) (ld sz : Nat) (l : List (List UInt8)) (hb : b.length ≤ 1000000000) (hld : ld ≤ 64) (hsz : sz ≤ 254) (hll : l.length ≤ 254) (h1 : at_ < b.length) (h2 : (b.getD at_ 0).toNat ≠ 0) (h3 : (b.getD at_ 0).toNat < 64) (h4 : b.length < at_ + 1 + (b.getD at_ 0).toNat) : EvX Try.prog 0 (loopAt Try.prog 46 7) ((qgG1 b at_ nx ld sz l).st 0) .ret ((qgEB 3).st 0) := by
  have hc := (b.getD at_ 0).toNat_lt
  have hd := (b.getD (at_ + 1) 0).toNat_lt
  refine stepXS_ok noneKnown_ok (qg_labshort1 b at_ nx ld sz l) ?_
  simp only [wNat (z := ((((b.getD at_ 0).toNat : Nat) : Int))) ((b.getD at_ 0).toNat) (by omega) (by omega), wNat (z := ((at_ : Int) + (1 : Int))) (at_ + 1) (by omega) (by omega), wNat (z := (((b.getD (at_ + 1) 0).toNat : Nat) : Int)) ((b.getD (at_ + 1) 0).toNat) (by omega) (by omega), Int.toNat_natCast, wNat (z := ((ld : Int) + (1 : Int))) (ld + 1) (by omega) (by omega), wNat (z := ((at_ : Int) + (2 : Int))) (at_ + 2) (by omega) (by omega), wNat (z := ((b.length : Int) - (at_ : Int))) (b.length - at_) (by omega) (by omega), wNat (z := (((b.length - at_ : Nat) : Int) - (1 : Int))) (b.length - at_ - 1) (by omega) (by omega), wNat (z := ((1 : Int) + ((((b.getD at_ 0).toNat : Nat) : Int)))) (1 + (b.getD at_ 0).toNat) (by omega) (by omega), wNat (z := ((at_ : Int) + ((1 + (b.getD at_ 0).toNat : Nat) : Int))) (at_ + 1 + (b.getD at_ 0).toNat) (by omega) (by omega), wNat (z := (((at_ + 1 : Nat) : Int) + ((((b.getD at_ 0).toNat : Nat) : Int)))) (at_ + 1 + (b.getD at_ 0).toNat) (by omega) (by omega), wNat (z := ((sz : Int) + ((1 + (b.getD at_ 0).toNat : Nat) : Int))) (sz + 1 + (b.getD at_ 0).toNat) (by omega) (by omega), wNat (z := (((sz + 1 + (b.getD at_ 0).toNat : Nat) : Int) + (1 : Int))) (sz + 1 + (b.getD at_ 0).toNat + 1) (by omega) (by omega), wNat (z := (((sz + 1 : Nat) : Int) + (1 : Int))) (sz + 1 + 1) (by omega) (by omega), wNat (z := (((sz + 1 + 1 : Nat) : Int) + ((((b.getD at_ 0).toNat : Nat) : Int)))) (sz + 1 + (b.getD at_ 0).toNat + 1) (by omega) (by omega), dropTake b (at_ + 1) (b.getD at_ 0).toNat]
  repeat' (first | exact allNil | refine allCons ?_ ?_ | (with_reducible refine allRp _ ?_ ?_))
  all_goals first | (with_reducible rfl) | exact True.intro | exact decide_eq_true (by omega) | exact decide_eq_false (by omega) | omega | exact beq_eq_false_iff_ne.2 (by omega) | exact beq_iff_eq.2 (by omega) | exact same_flat (fun _ => rfl) rfl | exact same_flat (fun _ => rfl) (by simp [rowsL, sStr]) | (simp [rowsL]; done) | (simp [SameO]; done) | (simp; done) | (simp; omega)
theorem qg_r_labsize1 (b : List UInt8) (at_ : Nat) (nx : Int) (ld sz : Nat) (l : List (List UInt8)) (hb : b.length ≤ 1000000000) (hld : ld ≤ 64) (hsz : sz ≤ 254) (hll : l.length ≤ 254) (h1 : at_ + 1 + (b.getD at_ 0).toNat ≤ b.length) (h2 : (b.getD at_ 0).toNat ≠ 0) (h3 : (b.getD at_ 0).toNat < 64) (h4 : 253 < sz + (b.getD at_ 0).toNat) : EvX Try.prog 0 (loopAt Try.prog 46 7) ((qgG1 b at_ nx ld sz l).st 0) .ret ((qgEB 4).st 0) := by
  have hc := (b.getD at_ 0).toNat_lt
  have hd := (b.getD (at_ + 1) 0).toNat_lt
  refine stepXS_ok noneKnown_ok (qg_labsize1 b at_ nx ld sz l) ?_
  simp only [wNat (z := ((((b.getD at_ 0).toNat : Nat) : Int))) ((b.getD at_ 0).toNat) (by omega) (by omega), wNat (z := ((at_ : Int) + (1 : Int))) (at_ + 1) (by omega) (by omega), wNat (z := (((b.getD (at_ + 1) 0).toNat : Nat) : Int)) ((b.getD (at_ + 1) 0).toNat) (by omega) (by omega), Int.toNat_natCast, wNat (z := ((ld : Int) + (1 : Int))) (ld + 1) (by omega) (by omega), wNat (z := ((at_ : Int) + (2 : Int))) (at_ + 2) (by omega) (by omega), wNat (z := ((b.length : Int) - (at_ : Int))) (b.length - at_) (by omega) (by omega), wNat (z := (((b.length - at_ : Nat) : Int) - (1 : Int))) (b.length - at_ - 1) (by omega) (by omega), wNat (z := ((1 : Int) + ((((b.getD at_ 0).toNat : Nat) : Int)))) (1 + (b.getD at_ 0).toNat) (by omega) (by omega), wNat (z := ((at_ : Int) + ((1 + (b.getD at_ 0).toNat : Nat) : Int))) (at_ + 1 + (b.getD at_ 0).toNat) (by omega) (by omega), wNat (z := (((at_ + 1 : Nat) : Int) + ((((b.getD at_ 0).toNat : Nat) : Int)))) (at_ + 1 + (b.getD at_ 0).toNat) (by omega) (by omega), wNat (z := ((sz : Int) + ((1 + (b.getD at_ 0).toNat : Nat) : Int))) (sz + 1 + (b.getD at_ 0).toNat) (by omega) (by omega), wNat (z := (((sz + 1 + (b.getD at_ 0).toNat : Nat) : Int) + (1 : Int))) (sz + 1 + (b.getD at_ 0).toNat + 1) (by omega) (by omega), wNat (z := (((sz + 1 : Nat) : Int) + (1 : Int))) (sz + 1 + 1) (by omega) (by omega), wNat (z := (((sz + 1 + 1 : Nat) : Int) + ((((b.getD at_ 0).toNat : Nat) : Int)))) (sz + 1 + (b.getD at_ 0).toNat + 1) (by omega) (by omega), dropTake b (at_ + 1) (b.getD at_ 0).toNat]
  repeat' (first | exact allNil | refine allCons ?_ ?_ | (with_reducible refine allRp _ ?_ ?_))
  all_goals first | (with_reducible rfl) | exact True.intro | exact decide_eq_true (by omega) | exact decide_eq_false (by omega) | omega | exact beq_eq_false_iff_ne.2 (by omega) | exact beq_iff_eq.2 (by omega) | exact same_flat (fun _ => rfl) rfl | exact same_flat (fun _ => rfl) (by simp [rowsL, sStr]) | (simp [rowsL]; done) | (simp [SameO]; done) | (simp; done) | (simp; omega)
theorem qg_r_lab1 (b : List UInt8) (at_ : Nat) (nx : Int) (ld sz : Nat) (l : List (List UInt8)) (hb : b.length ≤ 1000000000) (hld : ld ≤ 64) (hsz : sz ≤ 254) (hll : l.length ≤ 254) (h1 : at_ + 1 + (b.getD at_ 0).toNat ≤ b.length) (h2 : (b.getD at_ 0).toNat ≠ 0) (h3 : (b.getD at_ 0).toNat < 64) (h4 : sz + (b.getD at_ 0).toNat ≤ 253) : EvX Try.prog 0 (loopAt Try.prog 46 7) ((qgG1 b at_ nx ld sz l).st 0) .normal ((qgG1 b (at_ + 1 + (b.getD at_ 0).toNat) nx ld (sz + 1 + (b.getD at_ 0).toNat) (l ++ [(b.drop (at_ + 1)).take (b.getD at_ 0).toNat])).st 0) := by
  have hc := (b.getD at_ 0).toNat_lt
  have hd := (b.getD (at_ + 1) 0).toNat_lt
  refine stepXS_ok noneKnown_ok (qg_lab1 b at_ nx ld sz l) ?_
  simp only [wNat (z := ((((b.getD at_ 0).toNat : Nat) : Int))) ((b.getD at_ 0).toNat) (by omega) (by omega), wNat (z := ((at_ : Int) + (1 : Int))) (at_ + 1) (by omega) (by omega), wNat (z := (((b.getD (at_ + 1) 0).toNat : Nat) : Int)) ((b.getD (at_ + 1) 0).toNat) (by omega) (by omega), Int.toNat_natCast, wNat (z := ((ld : Int) + (1 : Int))) (ld + 1) (by omega) (by omega), wNat (z := ((at_ : Int) + (2 : Int))) (at_ + 2) (by omega) (by omega), wNat (z := ((b.length : Int) - (at_ : Int))) (b.length - at_) (by omega) (by omega), wNat (z := (((b.length - at_ : Nat) : Int) - (1 : Int))) (b.length - at_ - 1) (by omega) (by omega), wNat (z := ((1 : Int) + ((((b.getD at_ 0).toNat : Nat) : Int)))) (1 + (b.getD at_ 0).toNat) (by omega) (by omega), wNat (z := ((at_ : Int) + ((1 + (b.getD at_ 0).toNat : Nat) : Int))) (at_ + 1 + (b.getD at_ 0).toNat) (by omega) (by omega), wNat (z := (((at_ + 1 : Nat) : Int) + ((((b.getD at_ 0).toNat : Nat) : Int)))) (at_ + 1 + (b.getD at_ 0).toNat) (by omega) (by omega), wNat (z := ((sz : Int) + ((1 + (b.getD at_ 0).toNat : Nat) : Int))) (sz + 1 + (b.getD at_ 0).toNat) (by omega) (by omega), wNat (z := (((sz + 1 + (b.getD at_ 0).toNat : Nat) : Int) + (1 : Int))) (sz + 1 + (b.getD at_ 0).toNat + 1) (by omega) (by omega), wNat (z := (((sz + 1 : Nat) : Int) + (1 : Int))) (sz + 1 + 1) (by omega) (by omega), wNat (z := (((sz + 1 + 1 : Nat) : Int) + ((((b.getD at_ 0).toNat : Nat) : Int)))) (sz + 1 + (b.getD at_ 0).toNat + 1) (by omega) (by omega), dropTake b (at_ + 1) (b.getD at_ 0).toNat]
  repeat' (first | exact allNil | refine allCons ?_ ?_ | (with_reducible refine allRp _ ?_ ?_))
  all_goals first | (with_reducible rfl) | exact True.intro | exact decide_eq_true (by omega) | exact decide_eq_false (by omega) | omega | exact beq_eq_false_iff_ne.2 (by omega) | exact beq_iff_eq.2 (by omega) | exact same_flat (fun _ => rfl) rfl | exact same_flat (fun _ => rfl) (by simp [rowsL, sStr]) | (simp [rowsL]; done) | (simp [SameO]; done) | (simp; done) | (simp; omega)
theorem qg_r_ldtob1 (b : List UInt8) (at_ : Nat) (nx : Int) (ld sz : Nat) (l : List (List UInt8)) (hb : b.length ≤ 1000000000) (hld : ld ≤ 64) (hsz : sz ≤ 254) (hll : l.length ≤ 254) (h1 : at_ + 1 < b.length) (h2 : 192 ≤ (b.getD at_ 0).toNat) (h3 : at_ ≤ leadTo b at_) (h4 : ¬ nx < 0) : EvX Try.prog 0 (loopAt Try.prog 46 7) ((qgG1 b at_ nx ld sz l).st 0) .ret ((qgEB 4).st 0) := by
  have hc := (b.getD at_ 0).toNat_lt
  have hd := (b.getD (at_ + 1) 0).toNat_lt
  refine stepXS_ok noneKnown_ok (qg_ldtob1 b at_ nx ld sz l) ?_
  simp only [wNat (z := ((((b.getD at_ 0).toNat : Nat) : Int))) ((b.getD at_ 0).toNat) (by omega) (by omega), wNat (z := ((at_ : Int) + (1 : Int))) (at_ + 1) (by omega) (by omega), wNat (z := (((b.getD (at_ + 1) 0).toNat : Nat) : Int)) ((b.getD (at_ + 1) 0).toNat) (by omega) (by omega), Int.toNat_natCast, wNat (z := ((ld : Int) + (1 : Int))) (ld + 1) (by omega) (by omega), wNat (z := ((at_ : Int) + (2 : Int))) (at_ + 2) (by omega) (by omega), led2 b at_ h2]
  repeat' (first | exact allNil | refine allCons ?_ ?_ | (with_reducible refine allRp _ ?_ ?_))
  all_goals first | (with_reducible rfl) | exact True.intro | exact decide_eq_true (by omega) | exact decide_eq_false (by omega) | omega | exact beq_eq_false_iff_ne.2 (by omega) | exact beq_iff_eq.2 (by omega) | exact same_flat (fun _ => rfl) rfl | exact same_flat (fun _ => rfl) (by simp [rowsL, sStr]) | (simp [rowsL]; done) | (simp [SameO]; done) | (simp; done) | (simp; omega)
theorem qg_r_ldmanyb1 (b : List UInt8) (at_ : Nat) (nx : Int) (ld sz : Nat) (l : List (List UInt8)) (hb : b.length ≤ 1000000000) (hld : ld ≤ 64) (hsz : sz ≤ 254) (hll : l.length ≤ 254) (h1 : at_ + 1 < b.length) (h2 : 192 ≤ (b.getD at_ 0).toNat) (h3 : leadTo b at_ < at_) (h4 : 64 ≤ ld) (h5 : ¬ nx < 0) : EvX Try.prog 0 (loopAt Try.prog 46 7) ((qgG1 b at_ nx ld sz l).st 0) .ret ((qgEB 4).st 0) := by
  have hc := (b.getD at_ 0).toNat_lt
  have hd := (b.getD (at_ + 1) 0).toNat_lt
  refine stepXS_ok noneKnown_ok (qg_ldmanyb1 b at_ nx ld sz l) ?_
  simp only [wNat (z := ((((b.getD at_ 0).toNat : Nat) : Int))) ((b.getD at_ 0).toNat) (by omega) (by omega), wNat (z := ((at_ : Int) + (1 : Int))) (at_ + 1) (by omega) (by omega), wNat (z := (((b.getD (at_ + 1) 0).toNat : Nat) : Int)) ((b.getD (at_ + 1) 0).toNat) (by omega) (by omega), Int.toNat_natCast, wNat (z := ((ld : Int) + (1 : Int))) (ld + 1) (by omega) (by omega), wNat (z := ((at_ : Int) + (2 : Int))) (at_ + 2) (by omega) (by omega), led2 b at_ h2]
  repeat' (first | exact allNil | refine allCons ?_ ?_ | (with_reducible refine allRp _ ?_ ?_))
  all_goals first | (with_reducible rfl) | exact True.intro | exact decide_eq_true (by omega) | exact decide_eq_false (by omega) | omega | exact beq_eq_false_iff_ne.2 (by omega) | exact beq_iff_eq.2 (by omega) | exact same_flat (fun _ => rfl) rfl | exact same_flat (fun _ => rfl) (by simp [rowsL, sStr]) | (simp [rowsL]; done) | (simp [SameO]; done) | (simp; done) | (simp; omega)

def qgS (b : List UInt8) (at_ : Nat) (nx : Int) (ld sz : Nat) (l : List (List UInt8)) : GoalX := if l = [] then qgG b at_ nx ld sz else qgG1 b at_ nx ld sz l
def qgO (r : List (List UInt8) × Int × Int) : GoalX := if r.2.2 ≠ 0 then qgEB r.2.2 else if r.1 = [] then qgE0 r.2.1 else qgE1 r.1 r.2.1

theorem qg_loop (b : List UInt8) (hb : b.length ≤ 1000000000) : ∀ (k at_ : Nat) (nx : Int) (ld sz : Nat) (l : List (List UInt8)), (64 - ld) + (255 - sz) < k → ld ≤ 64 → sz ≤ 254 → l.length ≤ sz →
    EvXL Try.prog 0 (loopAt Try.prog 46 7) ((qgS b at_ nx ld sz l).st 0) .ret ((qgO (getF b k at_ nx ld sz l)).st 0)
  | 0, _, _, _, _, _, hk, _, _, _ => by omega
  | k + 1, at_, nx, ld, sz, l, hk, hld, hsz, hll => by
    have hc := (b.getD at_ 0).toNat_lt
    rw [getF]
    by_cases h1 : b.length ≤ at_
    · rw [if_pos h1]
      by_cases hl : l = []
      · subst hl
        exact EvXL.last (qg_r_short0 b at_ nx ld sz hb hld hsz h1) (by simp)
      · rw [qgS, if_neg hl]
        exact EvXL.last (qg_r_short1 b at_ nx ld sz l hb hld hsz (by omega) h1) (by simp)
    rw [if_neg h1]
    by_cases h2 : (b.getD at_ 0).toNat = 0
    · rw [if_pos h2]
      by_cases hl : l = []
      · subst hl
        by_cases hn : nx < 0
        · have e : qgO (([] : List (List UInt8)), nextP nx (at_ + 1), 0) = qgE0 ((at_ + 1 : Nat) : Int) := by simp [qgO, nextP, hn]
          rw [e]
          exact EvXL.last (qg_r_enda0 b at_ nx ld sz hb hld hsz (by omega) h2 hn) (by simp)
        · have e : qgO (([] : List (List UInt8)), nextP nx (at_ + 1), 0) = qgE0 nx := by simp [qgO, nextP, hn]
          rw [e]
          exact EvXL.last (qg_r_endb0 b at_ nx ld sz hb hld hsz (by omega) h2 hn) (by simp)
      · rw [qgS, if_neg hl]
        by_cases hn : nx < 0
        · have e : qgO (l, nextP nx (at_ + 1), 0) = qgE1 l ((at_ + 1 : Nat) : Int) := by simp [qgO, nextP, hn, hl]
          rw [e]
          exact EvXL.last (qg_r_enda1 b at_ nx ld sz l hb hld hsz (by omega) (by omega) h2 hn) (by simp)
        · have e : qgO (l, nextP nx (at_ + 1), 0) = qgE1 l nx := by simp [qgO, nextP, hn, hl]
          rw [e]
          exact EvXL.last (qg_r_endb1 b at_ nx ld sz l hb hld hsz (by omega) (by omega) h2 hn) (by simp)
    rw [if_neg h2]
    by_cases h3 : 192 ≤ (b.getD at_ 0).toNat
    · rw [if_pos h3]
      by_cases h4 : b.length ≤ at_ + 1
      · rw [if_pos h4]
        by_cases hl : l = []
        · subst hl
          exact EvXL.last (qg_r_ldshort0 b at_ nx ld sz hb hld hsz (by omega) h3 h4) (by simp)
        · rw [qgS, if_neg hl]
          exact EvXL.last (qg_r_ldshort1 b at_ nx ld sz l hb hld hsz (by omega) (by omega) h3 h4) (by simp)
      rw [if_neg h4]
      by_cases h5 : at_ ≤ leadTo b at_
      · rw [if_pos (.inl h5)]
        by_cases hl : l = []
        · subst hl
          by_cases hn : nx < 0 <;> first | exact EvXL.last (qg_r_ldto0 b at_ nx ld sz hb hld hsz (by omega) h3 h5 hn) (by simp) | exact EvXL.last (qg_r_ldtob0 b at_ nx ld sz hb hld hsz (by omega) h3 h5 hn) (by simp)
        · rw [qgS, if_neg hl]
          by_cases hn : nx < 0 <;> first | exact EvXL.last (qg_r_ldto1 b at_ nx ld sz l hb hld hsz (by omega) (by omega) h3 h5 hn) (by simp) | exact EvXL.last (qg_r_ldtob1 b at_ nx ld sz l hb hld hsz (by omega) (by omega) h3 h5 hn) (by simp)
      by_cases h6 : 64 ≤ ld
      · rw [if_pos (.inr h6)]
        by_cases hl : l = []
        · subst hl
          by_cases hn : nx < 0 <;> first | exact EvXL.last (qg_r_ldmany0 b at_ nx ld sz hb hld hsz (by omega) h3 (by omega) h6 hn) (by simp) | exact EvXL.last (qg_r_ldmanyb0 b at_ nx ld sz hb hld hsz (by omega) h3 (by omega) h6 hn) (by simp)
        · rw [qgS, if_neg hl]
          by_cases hn : nx < 0 <;> first | exact EvXL.last (qg_r_ldmany1 b at_ nx ld sz l hb hld hsz (by omega) (by omega) h3 (by omega) h6 hn) (by simp) | exact EvXL.last (qg_r_ldmanyb1 b at_ nx ld sz l hb hld hsz (by omega) (by omega) h3 (by omega) h6 hn) (by simp)
      rw [if_neg (by omega)]
      have ih := qg_loop b hb k (leadTo b at_) (nextP nx (at_ + 2)) (ld + 1) sz l (by omega) (by omega) hsz hll
      by_cases hn : nx < 0
      · have e : nextP nx (at_ + 2) = ((at_ + 2 : Nat) : Int) := by simp [nextP, hn]
        rw [e] at ih ⊢
        by_cases hl : l = []
        · subst hl
          exact EvXL.step (qg_r_lda0 b at_ nx ld sz hb hld hsz (by omega) h3 (by omega) (by omega) hn) ih
        · rw [qgS, if_neg hl] at ih ⊢
          exact EvXL.step (qg_r_lda1 b at_ nx ld sz l hb hld hsz (by omega) (by omega) h3 (by omega) (by omega) hn) ih
      · have e : nextP nx (at_ + 2) = nx := by simp [nextP, hn]
        rw [e] at ih ⊢
        by_cases hl : l = []
        · subst hl
          exact EvXL.step (qg_r_ldb0 b at_ nx ld sz hb hld hsz (by omega) h3 (by omega) (by omega) hn) ih
        · rw [qgS, if_neg hl] at ih ⊢
          exact EvXL.step (qg_r_ldb1 b at_ nx ld sz l hb hld hsz (by omega) (by omega) h3 (by omega) (by omega) hn) ih
    rw [if_neg h3]
    by_cases h4 : 64 ≤ (b.getD at_ 0).toNat
    · rw [if_pos h4]
      by_cases hl : l = []
      · subst hl
        exact EvXL.last (qg_r_big0 b at_ nx ld sz hb hld hsz (by omega) (by omega) h4) (by simp)
      · rw [qgS, if_neg hl]
        exact EvXL.last (qg_r_big1 b at_ nx ld sz l hb hld hsz (by omega) (by omega) (by omega) h4) (by simp)
    rw [if_neg h4]
    by_cases h5 : b.length < at_ + 1 + (b.getD at_ 0).toNat
    · rw [if_pos h5]
      by_cases hl : l = []
      · subst hl
        exact EvXL.last (qg_r_labshort0 b at_ nx ld sz hb hld hsz (by omega) h2 (by omega) h5) (by simp)
      · rw [qgS, if_neg hl]
        exact EvXL.last (qg_r_labshort1 b at_ nx ld sz l hb hld hsz (by omega) (by omega) h2 (by omega) h5) (by simp)
    rw [if_neg h5]
    by_cases h6 : 253 < sz + (b.getD at_ 0).toNat
    · rw [if_pos h6]
      by_cases hl : l = []
      · subst hl
        exact EvXL.last (qg_r_labsize0 b at_ nx ld sz hb hld hsz (by omega) h2 (by omega) h6) (by simp)
      · rw [qgS, if_neg hl]
        exact EvXL.last (qg_r_labsize1 b at_ nx ld sz l hb hld hsz (by omega) (by omega) h2 (by omega) h6) (by simp)
    rw [if_neg h6]
    have ih := qg_loop b hb k (at_ + 1 + (b.getD at_ 0).toNat) nx ld (sz + 1 + (b.getD at_ 0).toNat) (l ++ [(b.drop (at_ + 1)).take (b.getD at_ 0).toNat]) (by omega) hld (by omega) (by simp; omega)
    rw [qgS, if_neg (by simp)] at ih
    by_cases hl : l = []
    · subst hl
      exact EvXL.step (EvX.flat (G' := qgG1 b (at_ + 1 + (b.getD at_ 0).toNat) nx ld (sz + 1 + (b.getD at_ 0).toNat) [(b.drop (at_ + 1)).take (b.getD at_ 0).toNat]) (qg_r_lab0 b at_ nx ld sz hb hld hsz (by omega) h2 (by omega) (by omega)) rfl rfl rfl (by first | exact ⟨rfl, AObj.Eqv.refl _, rfl, objFlat_eqv .., trivial⟩ | exact ⟨rfl, objFlat_eqv .., trivial⟩)) ih
    · rw [qgS, if_neg hl]
      exact EvXL.step (qg_r_lab1 b at_ nx ld sz l hb hld hsz (by omega) (by omega) h2 (by omega) (by omega)) ih

theorem qg_top (b : List UInt8) (hb : b.length ≤ 1000000000) (at_ : Nat) : EvXL Try.prog 0 (loopAt Try.prog 46 7) ((qgG b at_ (-1) 0 0).st 0) .ret ((qgO (getW b (at_ : Int))).st 0) := by
  have h := qg_loop b hb 400 at_ (-1) 0 0 [] (by omega) (by omega) (by omega) (by simp)
  have e : getW b (at_ : Int) = getF b 400 at_ (-1) 0 0 [] := by
    unfold getW
    rw [if_neg (by omega), Int.toNat_natCast]
  rw [e]
  exact h

end Go.Proofs.Ytmilcpejchjleaa

/- Get, the program's and the document's, as known functions; so is exact. -/
namespace Go.Proofs.Ytmilcpejchjleaa
open Go.RowKit
set_option linter.unusedSimpArgs false

theorem ACall.upTo {P : Program} {g : FuncId} {xs : List AV} {L L' : List (Nat × AObj)} {nx n1 n2 : Nat} {v : AV} (h : ACall P g xs L nx v L' n1) (hn : n1 ≤ n2) : ACall P g xs L nx v L' n2 := by
  intro E w vs hs hr
  refine Calls.mono (h E w vs hs hr) fun e w' ⟨E', u, h1, h2, h3, h4⟩ => ⟨E', u, h1, h2.up hn, h3, h4⟩

/-- an answer of Get's -/
def isGet (f : FuncId) : Prop := f = 41 ∨ f = 46
theorem get_bad (f : FuncId) (hf : isGet f) (b : List UInt8) (z : Int) (hb : b.length ≤ 1000000000) (he : getE b z ≠ 0) : ACall Try.prog f [.bytes b, iI z] [] 0 (.tup [nilS, iI 0, iI (getE b z)]) [] 25 := by
  by_cases hz : z < 0
  · have e : getE b z = 3 := by unfold getE getW; rw [if_pos hz]
    rw [e]
    rcases hf with rfl | rfl
    · exact (outXS_ok noneKnown_ok (gt_neg b z) (by
        repeat' (first | exact allNil | refine allCons ?_ ?_)
        all_goals exact decide_eq_true hz))
    · exact (outXS_ok noneKnown_ok (qg_neg b z) (by
        repeat' (first | exact allNil | refine allCons ?_ ?_)
        all_goals exact decide_eq_true hz)).upTo (by decide)
  · obtain ⟨n, rfl⟩ : ∃ n : Nat, z = (n : Int) := ⟨z.toNat, by omega⟩
    rcases hf with rfl | rfl
    · have h := gt_top b hb n
      have e : gtO (getW b (n : Int)) = gtEB (getE b (n : Int)) := if_pos he
      rw [e] at h
      exact (outXS_ok noneKnown_ok (gt_bad b n (getE b (n : Int))) (by
        repeat' (first | exact allNil | refine allCons ?_ ?_)
        all_goals first | (with_reducible rfl) | exact h | (simp [SameO]; done))).upTo (by decide)
    · have h := qg_top b hb n
      have e : qgO (getW b (n : Int)) = qgEB (getE b (n : Int)) := if_pos he
      rw [e] at h
      by_cases hn : b.length ≤ n
      · have e3 : getE b (n : Int) = 3 := by
          unfold getE getW
          rw [if_neg (by omega), Int.toNat_natCast, getF, if_pos hn]
        rw [e3]
        exact (outXS_ok noneKnown_ok (qg_far b n) (by
          repeat' (first | exact allNil | refine allCons ?_ ?_)
          all_goals first | exact decide_eq_true (by omega) | exact decide_eq_false (by omega))).upTo (by decide)
      · exact (outXS_ok noneKnown_ok (qg_bad b n (getE b (n : Int))) (by
          repeat' (first | exact allNil | refine allCons ?_ ?_)
          all_goals first | (with_reducible rfl) | exact h | exact decide_eq_false (by omega) | (simp [SameO]; done))).upTo (by decide)

/-- where a name stands, the place is within -/
theorem getE_in {b : List UInt8} {z : Int} (h : getE b z = 0) : ∃ n : Nat, z = (n : Int) ∧ n < b.length := by
  unfold getE getW at h
  split at h
  · exact absurd h (by decide)
  · rename_i hz
    refine ⟨z.toNat, by omega, ?_⟩
    rw [getF] at h
    split at h
    · exact absurd h (by decide)
    · omega

theorem get_nil (f : FuncId) (hf : isGet f) (b : List UInt8) (z : Int) (hb : b.length ≤ 1000000000) (he : getE b z = 0) (hl : getL b z = []) : ACall Try.prog f [.bytes b, iI z] [] 0 (.tup [nilS, iI (getN b z), iI 0]) [] 0 := by
  obtain ⟨n, rfl, hn⟩ := getE_in he
  rcases hf with rfl | rfl
  · have h := gt_top b hb n
    have e : gtO (getW b (n : Int)) = gtE0 (getN b (n : Int)) := by
      unfold gtO
      rw [if_neg (fun h' => h' he), if_pos (show (getW b (n : Int)).1 = [] from hl)]
      rfl
    rw [e] at h
    exact outXS_ok noneKnown_ok (gt_nil b n (getN b (n : Int))) (by
      repeat' (first | exact allNil | refine allCons ?_ ?_)
      all_goals first | (with_reducible rfl) | exact h | (simp [SameO]; done))
  · have h := qg_top b hb n
    have e : qgO (getW b (n : Int)) = qgE0 (getN b (n : Int)) := by
      unfold qgO
      rw [if_neg (fun h' => h' he), if_pos (show (getW b (n : Int)).1 = [] from hl)]
      rfl
    rw [e] at h
    exact outXS_ok noneKnown_ok (qg_nil b n (getN b (n : Int))) (by
      repeat' (first | exact allNil | refine allCons ?_ ?_)
      all_goals first | (with_reducible rfl) | exact h | exact decide_eq_false (by omega) | (simp [SameO]; done))

theorem get_ok (f : FuncId) (hf : isGet f) (b : List UInt8) (z : Int) (hb : b.length ≤ 1000000000) (he : getE b z = 0) (hl : getL b z ≠ []) : ACall Try.prog f [.bytes b, iI z] [] 0 (.tup [.sl 0 0 (getL b z).length none, iI (getN b z), iI 0]) [(0, objFlat 9 1 (rowsL (getL b z)))] 1 := by
  obtain ⟨n, rfl, hn⟩ := getE_in he
  rcases hf with rfl | rfl
  · have h := gt_top b hb n
    have e : gtO (getW b (n : Int)) = gtE1 (getL b (n : Int)) (getN b (n : Int)) := by
      unfold gtO
      rw [if_neg (fun h' => h' he), if_neg (show ¬ (getW b (n : Int)).1 = [] from hl)]
      rfl
    rw [e] at h
    exact outXS_ok noneKnown_ok (gt_ok b n (getL b (n : Int)) (getN b (n : Int))) (by
      repeat' (first | exact allNil | refine allCons ?_ ?_)
      all_goals first | (with_reducible rfl) | exact h | (simp [SameO]; done))
  · have h := qg_top b hb n
    have e : qgO (getW b (n : Int)) = qgE1 (getL b (n : Int)) (getN b (n : Int)) := by
      unfold qgO
      rw [if_neg (fun h' => h' he), if_neg (show ¬ (getW b (n : Int)).1 = [] from hl)]
      rfl
    rw [e] at h
    exact outXS_ok noneKnown_ok (qg_ok b n (getL b (n : Int)) (getN b (n : Int))) (by
      repeat' (first | exact allNil | refine allCons ?_ ?_)
      all_goals first | (with_reducible rfl) | exact h | exact decide_eq_false (by omega) | (simp [SameO]; done))

/-- Get, known, in one of three ways -/
def kGet (way : Nat) : Inl := fun g xs L nx =>
  if g = 41 ∨ g = 46 then
    match xs with
    | [x, .val (.int .i64 z)] =>
      match bytesOf (hp L) x with
      | some (b, p) =>
        if L.all (fun q => decide (q.1 < nx)) = true then
          if way = 0 then some (.tup [nilS, iI 0, iI (getE b z)], L, nx + 25, [p, b.length ≤ 1000000000, getE b z ≠ 0])
          else if way = 1 then some (.tup [nilS, iI (getN b z), iI 0], L, nx, [p, b.length ≤ 1000000000, getE b z = 0, getL b z = []])
          else some (.tup [.sl nx 0 (getL b z).length none, iI (getN b z), iI 0], (nx, objFlat 9 1 (rowsL (getL b z))) :: L, nx + 1, [p, b.length ≤ 1000000000, getE b z = 0, getL b z ≠ []])
        else none
      | none => none
    | _ => none
  else none
theorem kGet_ok (way : Nat) : InlOk Try.prog (kGet way) := by
  intro g xs L nx v L' nx' q h hq
  unfold kGet at h
  split at h
  · rename_i hg
    split at h
    · rename_i x z
      split at h
      · rename_i b p hx
        split at h
        · rename_i hlt
          split at h
          · simp only [Option.some.injEq, Prod.mk.injEq] at h
            obtain ⟨rfl, rfl, rfl, rfl⟩ := h
            simp only [List.forall_mem_cons, List.not_mem_nil, false_implies, implies_true, and_true] at hq
            obtain ⟨q1, q2, q3⟩ := hq
            have := (get_bad g hg b z q2 q3).fresh' (L := L) (nx := nx) (by rfl) (by rfl) (FrsL.cons (Frs.bytes hx q1) (FrsL.cons (Frs.v _) FrsL.nil)) hlt
            exact ⟨this, by omega⟩
          · split at h
            · simp only [Option.some.injEq, Prod.mk.injEq] at h
              obtain ⟨rfl, rfl, rfl, rfl⟩ := h
              simp only [List.forall_mem_cons, List.not_mem_nil, false_implies, implies_true, and_true] at hq
              obtain ⟨q1, q2, q3, q4⟩ := hq
              have := (get_nil g hg b z q2 q3 q4).fresh' (L := L) (nx := nx) (by rfl) (by rfl) (FrsL.cons (Frs.bytes hx q1) (FrsL.cons (Frs.v _) FrsL.nil)) hlt
              exact ⟨this, by omega⟩
            · simp only [Option.some.injEq, Prod.mk.injEq] at h
              obtain ⟨rfl, rfl, rfl, rfl⟩ := h
              simp only [List.forall_mem_cons, List.not_mem_nil, false_implies, implies_true, and_true] at hq
              obtain ⟨q1, q2, q3, q4⟩ := hq
              have hpl : ([(0, objFlat 9 1 (rowsL (getL b z)))] : List (Nat × AObj)).all (fun p => p.2.plB 9) = true := by
                simp [AObj.plB, objFlat, rowsL, AV.plB, sStr]
              have := (get_ok g hg b z q2 q3 q4).fresh' (L := L) (nx := nx) (by rfl) hpl (FrsL.cons (Frs.bytes hx q1) (FrsL.cons (Frs.v _) FrsL.nil)) hlt
              refine ⟨?_, by omega⟩
              simpa [AV.ren, renL, renH, ren_flat, plus, nilS, iI] using this
        · cases h
      · cases h
    · cases h
  · cases h

/-- a function of two lists of texts that yields a plain value -/
def kPlain2 (f : FuncId) (v : List (List UInt8) → List (List UInt8) → Value) (K : List (List UInt8) → List (List UInt8) → Prop) : Inl := fun g xs L nx =>
  if g = f then
    match xs with
    | [x, y] =>
      match strsOf (hp L) x, strsOf (hp L) y with
      | some (a, p), some (b, p') => if L.all (fun q => decide (q.1 < nx)) = true then some (.val (v a b), L, nx, [p, p', K a b]) else none
      | _, _ => none
    | _ => none
  else none
theorem kPlain2_ok {P : Program} {f : FuncId} {v : List (List UInt8) → List (List UInt8) → Value} {K : List (List UInt8) → List (List UInt8) → Prop} (hc : ∀ a b, K a b → ACall P f [vS a, vS b] [] 0 (.val (v a b)) [] 0) : InlOk P (kPlain2 f v K) := by
  intro g xs L nx w L' nx' q h hq
  unfold kPlain2 at h
  split at h
  · rename_i hg
    subst hg
    split at h
    · rename_i x y
      split at h
      · rename_i a p b p' hx hy
        split at h
        · rename_i hlt
          simp only [Option.some.injEq, Prod.mk.injEq] at h
          obtain ⟨rfl, rfl, rfl, rfl⟩ := h
          simp only [List.forall_mem_cons, List.not_mem_nil, false_implies, implies_true, and_true] at hq
          obtain ⟨q1, q2, q3⟩ := hq
          obtain ⟨x', hfx, hrx⟩ := strs_frs hx q1
          obtain ⟨y', hfy, hry⟩ := strs_frs hy q2
          have := (hc a b q3).fresh' (L := L) (nx := nx) (by rfl) (by rfl) (FrsL.cons hfx (FrsL.cons hfy FrsL.nil)) hlt
          refine ⟨?_, Nat.le_refl _⟩
          have h2 : ACall P g [x', y'] L nx (.val (v a b)) L nx := by simpa [AV.ren, renH] using this
          refine h2.args rfl fun E w k a a' u h1 h2 h3 => ?_
          match k with
          | 0 =>
            simp only [List.getElem?_cons_zero, Option.some.injEq] at h1 h2
            subst h1 h2
            exact hrx _ _ _ h3
          | 1 =>
            simp only [List.getElem?_cons_zero, List.getElem?_cons_succ, Option.some.injEq] at h1 h2
            subst h1 h2
            exact hry _ _ _ h3
          | k + 2 => simp at h1
        · cases h
      · cases h
    · cases h
  · cases h

def kExact : Inl := kPlain2 44 (fun a b => .bool (decide (a = b))) (fun a _ => a.length ≤ 1000000000)
theorem kExact_ok : InlOk Try.prog kExact := kPlain2_ok fun a b h => exact_call a b h [] 0
def kR (way : Nat) : Inl := orInl (kGet way) (orInl kExact kN)
theorem kR_ok (way : Nat) : InlOk Try.prog (kR way) := orInl_ok (kGet_ok way) (orInl_ok kExact_ok kN_ok)
def kR0 : Inl := kR 0
def kR1 : Inl := kR 1
def kR2 : Inl := kR 2
end Go.Proofs.Ytmilcpejchjleaa

/- Put, Good and long, known wherever lists and bytes lie. -/
namespace Go.Proofs.Ytmilcpejchjleaa
open Go.RowKit
set_option linter.unusedSimpArgs false

/-- Put, known: refused, or written -/
def kPutN (bad : Bool) : Inl := fun g xs L nx =>
  if g = 42 then
    match xs with
    | [x, y] =>
      match bytesOf (hp L) x, strsOf (hp L) y with
      | some (b, p), some (ls, p') =>
        if L.all (fun q => decide (q.1 < nx)) = true then
          if bad then some (.tup [nilS, iI 1], L, nx + 7, [p, p', lsK ls, goodN ls = false])
          else some (.tup [.sl (3 + nx) 0 ((b ++ encL ls).length + 1) none, iI 0], (3 + nx, puO (b ++ encL ls ++ [0])) :: L, nx + 6, [p, p', lsK ls, goodN ls = true, b.length ≤ 900000])
        else none
      | _, _ => none
    | _ => none
  else none

theorem args2 {P : Program} {g : FuncId} {x y y' : AV} {L L' : List (Nat × AObj)} {nx n1 : Nat} {v : AV} (h : ACall P g [x, y] L nx v L' n1) (hr : ∀ E w u, Rep E w y' u → Rep E w y u) : ACall P g [x, y'] L nx v L' n1 :=
  h.args rfl fun E w k a a' u h1 h2 h3 => by
    match k with
    | 0 =>
      simp only [List.getElem?_cons_zero, Option.some.injEq] at h1 h2
      subst h1 h2
      exact h3
    | 1 =>
      simp only [List.getElem?_cons_zero, List.getElem?_cons_succ, Option.some.injEq] at h1 h2
      subst h1 h2
      exact hr _ _ _ h3
    | k + 2 => simp at h1

theorem kPutN_ok (bad : Bool) : InlOk Try.prog (kPutN bad) := by
  intro g xs L nx v L' nx' q h hq
  unfold kPutN at h
  split at h
  · rename_i hg
    subst hg
    split at h
    · rename_i x y
      split at h
      · rename_i b p ls p' hx hy
        split at h
        · rename_i hlt
          split at h
          · simp only [Option.some.injEq, Prod.mk.injEq] at h
            obtain ⟨rfl, rfl, rfl, rfl⟩ := h
            simp only [List.forall_mem_cons, List.not_mem_nil, false_implies, implies_true, and_true] at hq
            obtain ⟨q1, q2, q3, q4⟩ := hq
            obtain ⟨y', hf, hr⟩ := strs_frs hy q2
            have := (put_bad b ls q3 q4).fresh' (L := L) (nx := nx) (by rfl) (by rfl) (FrsL.cons (Frs.bytes hx q1) (FrsL.cons hf FrsL.nil)) hlt
            exact ⟨args2 this hr, by omega⟩
          · simp only [Option.some.injEq, Prod.mk.injEq] at h
            obtain ⟨rfl, rfl, rfl, rfl⟩ := h
            simp only [List.forall_mem_cons, List.not_mem_nil, false_implies, implies_true, and_true] at hq
            obtain ⟨q1, q2, q3, q4, q5⟩ := hq
            obtain ⟨y', hf, hr⟩ := strs_frs hy q2
            have := (put_ok b ls q3 q4 q5).fresh' (L := L) (nx := nx) (by rfl) (by rfl) (FrsL.cons (Frs.bytes hx q1) (FrsL.cons hf FrsL.nil)) hlt
            refine ⟨args2 (x := x) (y := y') ?_ hr, by omega⟩
            simpa [AV.ren, renL, renH, puO, objApp, AObj.ren, plus, iI] using this
        · cases h
      · cases h
    · cases h
  · cases h

def kRPut : Inl := fun g xs L nx =>
  if g = 50 then
    match xs with
    | [x, y] =>
      match bytesOf (hp L) x, strsOf (hp L) y with
      | some (b, p), some (ls, p') =>
        if L.all (fun q => decide (q.1 < nx)) = true then
          some (.sl (3 + nx) 0 ((b ++ encL ls).length + 1) none, (3 + nx, puO (b ++ encL ls ++ [0])) :: L, nx + 5, [p, p', lsK ls, goodN ls = true, b.length ≤ 900000])
        else none
      | _, _ => none
    | _ => none
  else none
theorem kRPut_ok : InlOk Try.prog kRPut := by
  intro g xs L nx v L' nx' q h hq
  unfold kRPut at h
  split at h
  · rename_i hg
    subst hg
    split at h
    · rename_i x y
      split at h
      · rename_i b p ls p' hx hy
        split at h
        · rename_i hlt
          simp only [Option.some.injEq, Prod.mk.injEq] at h
          obtain ⟨rfl, rfl, rfl, rfl⟩ := h
          simp only [List.forall_mem_cons, List.not_mem_nil, false_implies, implies_true, and_true] at hq
          obtain ⟨q1, q2, q3, q4, q5⟩ := hq
          obtain ⟨y', hf, hr⟩ := strs_frs hy q2
          have := (rput_ok b ls q3 q4 q5).fresh' (L := L) (nx := nx) (by rfl) (by rfl) (FrsL.cons (Frs.bytes hx q1) (FrsL.cons hf FrsL.nil)) hlt
          refine ⟨args2 (x := x) (y := y') ?_ hr, by omega⟩
          simpa [AV.ren, renL, renH, puO, objApp, AObj.ren, plus, iI] using this
        · cases h
      · cases h
    · cases h
  · cases h

def kGoodP : Inl := kPlain 49 (fun ls => .bool (goodN ls)) lsK
theorem kGoodP_ok : InlOk Try.prog kGoodP := kPlain_ok fun ls h => good_call ls h.1 h.2 [] 0
def kRGood : Inl := kPlain 48 (fun ls => .bool (goodN ls)) fun _ => True
theorem kRGood_ok : InlOk Try.prog kRGood := kPlain_ok fun ls _ => rgood_call ls [] 0
def kLong : Inl := kPlain 47 (fun ls => .bool (longN ls)) fun _ => True
theorem kLong_ok : InlOk Try.prog kLong := kPlain_ok fun ls _ => long_call ls [] 0
def kW (bad : Bool) (way : Nat) : Inl := orInl (kPutN bad) (orInl kRPut (orInl kGoodP (orInl kRGood (orInl kLong (kR way)))))
theorem kW_ok (bad : Bool) (way : Nat) : InlOk Try.prog (kW bad way) := orInl_ok (kPutN_ok bad) (orInl_ok kRPut_ok (orInl_ok kGoodP_ok (orInl_ok kRGood_ok (orInl_ok kLong_ok (kR_ok way)))))
def kW0 : Inl := kW true 0
def kW1 : Inl := kW false 1
def kW2 : Inl := kW false 2
theorem longN_k {ls : List (List UInt8)} (h : longN ls = false) : ls.length ≤ 200 ∧ ∀ s ∈ ls, s.length ≤ 300 := by
  unfold longN longR at h
  simp only [Bool.or_eq_false_iff, decide_eq_false_iff_not, List.any_eq_false, decide_eq_true_eq] at h
  exact ⟨by omega, fun s hs => by have := h.2 s hs; omega⟩
theorem lsK_of {ls : List (List UInt8)} (h : longN ls = false) : lsK ls := by
  obtain ⟨h1, h2⟩ := longN_k h
  refine ⟨by omega, fun i => ?_⟩
  rw [List.getD_eq_getElem?_getD]
  by_cases hi : i < ls.length
  · rw [List.getElem?_eq_getElem hi, Option.getD_some]
    have := h2 _ (List.getElem_mem hi)
    omega
  · rw [List.getElem?_eq_none (by omega)]
    simp

/-- what was written is read -/
theorem getW_enc (b q : List UInt8) (ls : List (List UInt8)) (hg : goodN ls = true) : getW (b ++ (encL ls ++ 0 :: q)) (b.length : Int) = (ls, ((b.length + (encL ls).length + 1 : Nat) : Int), 0) := by
  have hc : ls.length ≤ 130 := by
    rcases goodF_count 1 ls hg with h | h
    · omega
    · subst h; simp
  unfold getW
  rw [if_neg (by omega), Int.toNat_natCast]
  obtain ⟨k, hk⟩ : ∃ k, 400 = (k + 1) + ls.length := ⟨399 - ls.length, by omega⟩
  rw [hk, getF_enc ls b (0 :: q) (k + 1) (-1) 0 0 [] hg, getF]
  have h0 : ((b ++ (encL ls ++ 0 :: q)).getD (b.length + (encL ls).length) 0).toNat = 0 := by
    have := getD_mid (b ++ encL ls) [0] q 0 (by simp)
    simp only [List.length_append, List.append_assoc, Nat.add_zero, List.singleton_append] at this
    rw [this]
    rfl
  have hl : (b ++ (encL ls ++ 0 :: q)).length = b.length + (encL ls).length + 1 + q.length := by simp; omega
  rw [h0, hl, if_neg (by omega), if_pos rfl]
  simp [nextP]
theorem getW_put (b : List UInt8) (ls : List (List UInt8)) (hg : goodN ls = true) : getW (b ++ encL ls ++ [0]) (b.length : Int) = (ls, ((b ++ encL ls ++ [0]).length : Int), 0) := by
  rw [List.append_assoc, getW_enc b [] ls hg]
  simp; omega
end Go.Proofs.Ytmilcpejchjleaa
