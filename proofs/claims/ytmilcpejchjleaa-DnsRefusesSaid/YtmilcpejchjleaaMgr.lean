/- Several texts in one: GtRun, Gt. -/
import Derived.Test.YtmilcpejchjleaaMgt

/- A name that is read, reckoned. -/
namespace Go.Proofs.Ytmilcpejchjleaa
open Go.RowKit

set_option maxRecDepth 100000 in
theorem gt_short0 (b : List UInt8) (at_ : Nat) (nx : Int) (ld : Nat) (sz : Nat) : stepXS noneKnown [(41, { br := [(27, true)] })] Try.prog 41 2 (gtG b at_ nx ld sz) (gtEB (3 : Int)) [] 0 [] =
   some (.ret,
   [decide ((↑at_ : Int) ≥ (↑(List.length b) : Int)) = true,
   AV.val (Value.int IntKind.i64 (3 : Int)) = AV.val (Value.int IntKind.i64 (3 : Int))]) := by kernel_rfl

set_option maxRecDepth 100000 in
theorem gt_enda0 (b : List UInt8) (at_ : Nat) (nx : Int) (ld : Nat) (sz : Nat) : stepXS noneKnown [(41, { op := [(4, 5, .get)], br := [(27, false), (39, true), (46, true)], ob := [(4, 5)] })] Try.prog 41 2 (gtG b at_ nx ld sz) (gtE0 (↑(at_ + (1 : Nat)) : Int)) [] 0 [] =
   some (.ret,
   [decide ((↑at_ : Int) ≥ (↑(List.length b) : Int)) = false,
   (0 : Int) ≤ (↑at_ : Int) ∧ at_ < List.length b,
   (IntKind.wrap IntKind.i64 (↑(UInt8.toNat (List.getD b at_ (0 : UInt8))) : Int) == (0 : Int)) = true,
   decide (nx < (0 : Int)) = true,
   AV.val (Value.int IntKind.i64 (IntKind.wrap IntKind.i64 ((↑at_ : Int) + (1 : Int)))) = AV.val (Value.int IntKind.i64 (↑(at_ + (1 : Nat)) : Int))]) := by kernel_rfl

set_option maxRecDepth 100000 in
theorem gt_endb0 (b : List UInt8) (at_ : Nat) (nx : Int) (ld : Nat) (sz : Nat) : stepXS noneKnown [(41, { op := [(4, 5, .get)], br := [(27, false), (39, true), (46, false)], ob := [(4, 5)] })] Try.prog 41 2 (gtG b at_ nx ld sz) (gtE0 nx) [] 0 [] =
   some (.ret,
   [decide ((↑at_ : Int) ≥ (↑(List.length b) : Int)) = false,
   (0 : Int) ≤ (↑at_ : Int) ∧ at_ < List.length b,
   (IntKind.wrap IntKind.i64 (↑(UInt8.toNat (List.getD b at_ (0 : UInt8))) : Int) == (0 : Int)) = true,
   decide (nx < (0 : Int)) = false,
   AV.val (Value.int IntKind.i64 nx) = AV.val (Value.int IntKind.i64 nx)]) := by kernel_rfl

set_option maxRecDepth 100000 in
theorem gt_ldshort0 (b : List UInt8) (at_ : Nat) (nx : Int) (ld : Nat) (sz : Nat) : stepXS noneKnown [(41, { op := [(4, 5, .get)], br := [(27, false), (39, false), (63, true)], ob := [(4, 5), (12, 1)] }),
   (81, { br := [(14, true)] })] Try.prog 41 2 (gtG b at_ nx ld sz) (gtEB (3 : Int)) [] 0 [] =
   some (.ret,
   [decide ((↑at_ : Int) ≥ (↑(List.length b) : Int)) = false,
   (0 : Int) ≤ (↑at_ : Int) ∧ at_ < List.length b,
   (IntKind.wrap IntKind.i64 (↑(UInt8.toNat (List.getD b at_ (0 : UInt8))) : Int) == (0 : Int)) = false,
   decide (IntKind.wrap IntKind.i64 (↑(UInt8.toNat (List.getD b at_ (0 : UInt8))) : Int) ≥ (192 : Int)) = true,
   decide (IntKind.wrap IntKind.i64 ((↑at_ : Int) + (1 : Int)) ≥ (↑(List.length b) : Int)) = true,
   AV.val (Value.int IntKind.i64 (3 : Int)) = AV.val (Value.int IntKind.i64 (3 : Int))]) := by kernel_rfl

set_option maxRecDepth 100000 in
theorem gt_ldto0 (b : List UInt8) (at_ : Nat) (nx : Int) (ld : Nat) (sz : Nat) : stepXS noneKnown [(41, { op := [(4, 5, .get)], br := [(27, false), (39, false), (63, true)], ob := [(4, 5), (12, 1)] }),
   (81, { op := [(3, 8, .get), (3, 22, .get), (5, 12, .br true)], gd := [(5, 7, true), (5, 8, true), (5, 9, true), (5, 10, true), (5, 11, true)], br := [(14, false)], ob := [(3, 8), (3, 22)] })] Try.prog 41 2 (gtG b at_ nx ld sz) (gtEB (4 : Int)) [] 0 [] =
   some (.ret,
   [decide ((↑at_ : Int) ≥ (↑(List.length b) : Int)) = false,
   (0 : Int) ≤ (↑at_ : Int) ∧ at_ < List.length b,
   (IntKind.wrap IntKind.i64 (↑(UInt8.toNat (List.getD b at_ (0 : UInt8))) : Int) == (0 : Int)) = false,
   decide (IntKind.wrap IntKind.i64 (↑(UInt8.toNat (List.getD b at_ (0 : UInt8))) : Int) ≥ (192 : Int)) = true,
   decide (IntKind.wrap IntKind.i64 ((↑at_ : Int) + (1 : Int)) ≥ (↑(List.length b) : Int)) = false,
   (0 : Int) ≤ (↑at_ : Int) ∧ at_ < List.length b,
   (0 : Int) ≤ IntKind.wrap IntKind.i64 ((↑at_ : Int) + (1 : Int)) ∧ Int.toNat (IntKind.wrap IntKind.i64 ((↑at_ : Int) + (1 : Int))) < List.length b,
   decide (bits BinOp.or IntKind.i64 (IntKind.wrap IntKind.i64 (IntKind.wrap IntKind.i64 (bits BinOp.and IntKind.u8 (↑(UInt8.toNat (List.getD b at_ (0 : UInt8))) : Int) (63 : Int)) * (256 : Int))) (IntKind.wrap IntKind.i64 (↑(UInt8.toNat (List.getD b (Int.toNat (IntKind.wrap IntKind.i64 ((↑at_ : Int) + (1 : Int)))) (0 : UInt8))) : Int)) ≥ (↑at_ : Int)) = true,
   decide (bits BinOp.or IntKind.i64 (IntKind.wrap IntKind.i64 (IntKind.wrap IntKind.i64 (bits BinOp.and IntKind.u8 (↑(UInt8.toNat (List.getD b at_ (0 : UInt8))) : Int) (63 : Int)) * (256 : Int))) (IntKind.wrap IntKind.i64 (↑(UInt8.toNat (List.getD b (Int.toNat (IntKind.wrap IntKind.i64 ((↑at_ : Int) + (1 : Int)))) (0 : UInt8))) : Int)) ≥ (↑at_ : Int)) = true,
   decide (bits BinOp.or IntKind.i64 (IntKind.wrap IntKind.i64 (IntKind.wrap IntKind.i64 (bits BinOp.and IntKind.u8 (↑(UInt8.toNat (List.getD b at_ (0 : UInt8))) : Int) (63 : Int)) * (256 : Int))) (IntKind.wrap IntKind.i64 (↑(UInt8.toNat (List.getD b (Int.toNat (IntKind.wrap IntKind.i64 ((↑at_ : Int) + (1 : Int)))) (0 : UInt8))) : Int)) ≥ (↑at_ : Int)) = true,
   decide (bits BinOp.or IntKind.i64 (IntKind.wrap IntKind.i64 (IntKind.wrap IntKind.i64 (bits BinOp.and IntKind.u8 (↑(UInt8.toNat (List.getD b at_ (0 : UInt8))) : Int) (63 : Int)) * (256 : Int))) (IntKind.wrap IntKind.i64 (↑(UInt8.toNat (List.getD b (Int.toNat (IntKind.wrap IntKind.i64 ((↑at_ : Int) + (1 : Int)))) (0 : UInt8))) : Int)) ≥ (↑at_ : Int)) = true,
   decide (bits BinOp.or IntKind.i64 (IntKind.wrap IntKind.i64 (IntKind.wrap IntKind.i64 (bits BinOp.and IntKind.u8 (↑(UInt8.toNat (List.getD b at_ (0 : UInt8))) : Int) (63 : Int)) * (256 : Int))) (IntKind.wrap IntKind.i64 (↑(UInt8.toNat (List.getD b (Int.toNat (IntKind.wrap IntKind.i64 ((↑at_ : Int) + (1 : Int)))) (0 : UInt8))) : Int)) ≥ (↑at_ : Int)) = true,
   decide (bits BinOp.or IntKind.i64 (IntKind.wrap IntKind.i64 (IntKind.wrap IntKind.i64 (bits BinOp.and IntKind.u8 (↑(UInt8.toNat (List.getD b at_ (0 : UInt8))) : Int) (63 : Int)) * (256 : Int))) (IntKind.wrap IntKind.i64 (↑(UInt8.toNat (List.getD b (Int.toNat (IntKind.wrap IntKind.i64 ((↑at_ : Int) + (1 : Int)))) (0 : UInt8))) : Int)) ≥ (↑at_ : Int)) = true,
   AV.val (Value.int IntKind.i64 (4 : Int)) = AV.val (Value.int IntKind.i64 (4 : Int))]) := by kernel_rfl

set_option maxRecDepth 100000 in
theorem gt_ldmany0 (b : List UInt8) (at_ : Nat) (nx : Int) (ld : Nat) (sz : Nat) : stepXS noneKnown [(41, { op := [(4, 5, .get)], br := [(27, false), (39, false), (63, true)], ob := [(4, 5), (12, 1)] }),
   (81, { op := [(3, 8, .get), (3, 22, .get), (5, 12, .br false)], gd := [(5, 7, false), (5, 8, false), (5, 9, false), (5, 10, false), (5, 11, false)], br := [(14, false), (60, true)], ob := [(3, 8), (3, 22)] })] Try.prog 41 2 (gtG b at_ nx ld sz) (gtEB (4 : Int)) [] 0 [] =
   some (.ret,
   [decide ((↑at_ : Int) ≥ (↑(List.length b) : Int)) = false,
   (0 : Int) ≤ (↑at_ : Int) ∧ at_ < List.length b,
   (IntKind.wrap IntKind.i64 (↑(UInt8.toNat (List.getD b at_ (0 : UInt8))) : Int) == (0 : Int)) = false,
   decide (IntKind.wrap IntKind.i64 (↑(UInt8.toNat (List.getD b at_ (0 : UInt8))) : Int) ≥ (192 : Int)) = true,
   decide (IntKind.wrap IntKind.i64 ((↑at_ : Int) + (1 : Int)) ≥ (↑(List.length b) : Int)) = false,
   (0 : Int) ≤ (↑at_ : Int) ∧ at_ < List.length b,
   (0 : Int) ≤ IntKind.wrap IntKind.i64 ((↑at_ : Int) + (1 : Int)) ∧ Int.toNat (IntKind.wrap IntKind.i64 ((↑at_ : Int) + (1 : Int))) < List.length b,
   decide (bits BinOp.or IntKind.i64 (IntKind.wrap IntKind.i64 (IntKind.wrap IntKind.i64 (bits BinOp.and IntKind.u8 (↑(UInt8.toNat (List.getD b at_ (0 : UInt8))) : Int) (63 : Int)) * (256 : Int))) (IntKind.wrap IntKind.i64 (↑(UInt8.toNat (List.getD b (Int.toNat (IntKind.wrap IntKind.i64 ((↑at_ : Int) + (1 : Int)))) (0 : UInt8))) : Int)) ≥ (↑at_ : Int)) = false,
   decide (bits BinOp.or IntKind.i64 (IntKind.wrap IntKind.i64 (IntKind.wrap IntKind.i64 (bits BinOp.and IntKind.u8 (↑(UInt8.toNat (List.getD b at_ (0 : UInt8))) : Int) (63 : Int)) * (256 : Int))) (IntKind.wrap IntKind.i64 (↑(UInt8.toNat (List.getD b (Int.toNat (IntKind.wrap IntKind.i64 ((↑at_ : Int) + (1 : Int)))) (0 : UInt8))) : Int)) ≥ (↑at_ : Int)) = false,
   decide (bits BinOp.or IntKind.i64 (IntKind.wrap IntKind.i64 (IntKind.wrap IntKind.i64 (bits BinOp.and IntKind.u8 (↑(UInt8.toNat (List.getD b at_ (0 : UInt8))) : Int) (63 : Int)) * (256 : Int))) (IntKind.wrap IntKind.i64 (↑(UInt8.toNat (List.getD b (Int.toNat (IntKind.wrap IntKind.i64 ((↑at_ : Int) + (1 : Int)))) (0 : UInt8))) : Int)) ≥ (↑at_ : Int)) = false,
   decide (bits BinOp.or IntKind.i64 (IntKind.wrap IntKind.i64 (IntKind.wrap IntKind.i64 (bits BinOp.and IntKind.u8 (↑(UInt8.toNat (List.getD b at_ (0 : UInt8))) : Int) (63 : Int)) * (256 : Int))) (IntKind.wrap IntKind.i64 (↑(UInt8.toNat (List.getD b (Int.toNat (IntKind.wrap IntKind.i64 ((↑at_ : Int) + (1 : Int)))) (0 : UInt8))) : Int)) ≥ (↑at_ : Int)) = false,
   decide (bits BinOp.or IntKind.i64 (IntKind.wrap IntKind.i64 (IntKind.wrap IntKind.i64 (bits BinOp.and IntKind.u8 (↑(UInt8.toNat (List.getD b at_ (0 : UInt8))) : Int) (63 : Int)) * (256 : Int))) (IntKind.wrap IntKind.i64 (↑(UInt8.toNat (List.getD b (Int.toNat (IntKind.wrap IntKind.i64 ((↑at_ : Int) + (1 : Int)))) (0 : UInt8))) : Int)) ≥ (↑at_ : Int)) = false,
   decide (bits BinOp.or IntKind.i64 (IntKind.wrap IntKind.i64 (IntKind.wrap IntKind.i64 (bits BinOp.and IntKind.u8 (↑(UInt8.toNat (List.getD b at_ (0 : UInt8))) : Int) (63 : Int)) * (256 : Int))) (IntKind.wrap IntKind.i64 (↑(UInt8.toNat (List.getD b (Int.toNat (IntKind.wrap IntKind.i64 ((↑at_ : Int) + (1 : Int)))) (0 : UInt8))) : Int)) ≥ (↑at_ : Int)) = false,
   decide (IntKind.wrap IntKind.i64 ((↑ld : Int) + (1 : Int)) > (64 : Int)) = true,
   AV.val (Value.int IntKind.i64 (4 : Int)) = AV.val (Value.int IntKind.i64 (4 : Int))]) := by kernel_rfl

set_option maxRecDepth 100000 in
theorem gt_lda0 (b : List UInt8) (at_ : Nat) (nx : Int) (ld : Nat) (sz : Nat) : stepXS noneKnown [(41, { op := [(4, 5, .get)], br := [(27, false), (39, false), (63, true)], ob := [(4, 5), (12, 1)] }),
   (81, { op := [(3, 8, .get), (3, 22, .get), (5, 12, .br false)], gd := [(5, 7, false), (5, 8, false), (5, 9, false), (5, 10, false), (5, 11, false)], br := [(14, false), (60, false), (65, true)], ob := [(3, 8), (3, 22)] })] Try.prog 41 2 (gtG b at_ nx ld sz) (gtG b (leadTo b at_) (↑(at_ + (2 : Nat)) : Int) (ld + (1 : Nat)) sz) [(0 : Nat)] 0 [] =
   some (.normal,
   [decide ((↑at_ : Int) ≥ (↑(List.length b) : Int)) = false,
   (0 : Int) ≤ (↑at_ : Int) ∧ at_ < List.length b,
   (IntKind.wrap IntKind.i64 (↑(UInt8.toNat (List.getD b at_ (0 : UInt8))) : Int) == (0 : Int)) = false,
   decide (IntKind.wrap IntKind.i64 (↑(UInt8.toNat (List.getD b at_ (0 : UInt8))) : Int) ≥ (192 : Int)) = true,
   decide (IntKind.wrap IntKind.i64 ((↑at_ : Int) + (1 : Int)) ≥ (↑(List.length b) : Int)) = false,
   (0 : Int) ≤ (↑at_ : Int) ∧ at_ < List.length b,
   (0 : Int) ≤ IntKind.wrap IntKind.i64 ((↑at_ : Int) + (1 : Int)) ∧ Int.toNat (IntKind.wrap IntKind.i64 ((↑at_ : Int) + (1 : Int))) < List.length b,
   decide (bits BinOp.or IntKind.i64 (IntKind.wrap IntKind.i64 (IntKind.wrap IntKind.i64 (bits BinOp.and IntKind.u8 (↑(UInt8.toNat (List.getD b at_ (0 : UInt8))) : Int) (63 : Int)) * (256 : Int))) (IntKind.wrap IntKind.i64 (↑(UInt8.toNat (List.getD b (Int.toNat (IntKind.wrap IntKind.i64 ((↑at_ : Int) + (1 : Int)))) (0 : UInt8))) : Int)) ≥ (↑at_ : Int)) = false,
   decide (bits BinOp.or IntKind.i64 (IntKind.wrap IntKind.i64 (IntKind.wrap IntKind.i64 (bits BinOp.and IntKind.u8 (↑(UInt8.toNat (List.getD b at_ (0 : UInt8))) : Int) (63 : Int)) * (256 : Int))) (IntKind.wrap IntKind.i64 (↑(UInt8.toNat (List.getD b (Int.toNat (IntKind.wrap IntKind.i64 ((↑at_ : Int) + (1 : Int)))) (0 : UInt8))) : Int)) ≥ (↑at_ : Int)) = false,
   decide (bits BinOp.or IntKind.i64 (IntKind.wrap IntKind.i64 (IntKind.wrap IntKind.i64 (bits BinOp.and IntKind.u8 (↑(UInt8.toNat (List.getD b at_ (0 : UInt8))) : Int) (63 : Int)) * (256 : Int))) (IntKind.wrap IntKind.i64 (↑(UInt8.toNat (List.getD b (Int.toNat (IntKind.wrap IntKind.i64 ((↑at_ : Int) + (1 : Int)))) (0 : UInt8))) : Int)) ≥ (↑at_ : Int)) = false,
   decide (bits BinOp.or IntKind.i64 (IntKind.wrap IntKind.i64 (IntKind.wrap IntKind.i64 (bits BinOp.and IntKind.u8 (↑(UInt8.toNat (List.getD b at_ (0 : UInt8))) : Int) (63 : Int)) * (256 : Int))) (IntKind.wrap IntKind.i64 (↑(UInt8.toNat (List.getD b (Int.toNat (IntKind.wrap IntKind.i64 ((↑at_ : Int) + (1 : Int)))) (0 : UInt8))) : Int)) ≥ (↑at_ : Int)) = false,
   decide (bits BinOp.or IntKind.i64 (IntKind.wrap IntKind.i64 (IntKind.wrap IntKind.i64 (bits BinOp.and IntKind.u8 (↑(UInt8.toNat (List.getD b at_ (0 : UInt8))) : Int) (63 : Int)) * (256 : Int))) (IntKind.wrap IntKind.i64 (↑(UInt8.toNat (List.getD b (Int.toNat (IntKind.wrap IntKind.i64 ((↑at_ : Int) + (1 : Int)))) (0 : UInt8))) : Int)) ≥ (↑at_ : Int)) = false,
   decide (bits BinOp.or IntKind.i64 (IntKind.wrap IntKind.i64 (IntKind.wrap IntKind.i64 (bits BinOp.and IntKind.u8 (↑(UInt8.toNat (List.getD b at_ (0 : UInt8))) : Int) (63 : Int)) * (256 : Int))) (IntKind.wrap IntKind.i64 (↑(UInt8.toNat (List.getD b (Int.toNat (IntKind.wrap IntKind.i64 ((↑at_ : Int) + (1 : Int)))) (0 : UInt8))) : Int)) ≥ (↑at_ : Int)) = false,
   decide (IntKind.wrap IntKind.i64 ((↑ld : Int) + (1 : Int)) > (64 : Int)) = false,
   decide (nx < (0 : Int)) = true,
   AV.bytes b = AV.bytes b,
   SameO (some { t := (133 : Nat), sz := (6 : Nat), exact := true, fz := false, body := Body.rows [[AV.bytes b, AV.val (Value.int IntKind.i64 (bits BinOp.or IntKind.i64 (IntKind.wrap IntKind.i64 (IntKind.wrap IntKind.i64 (bits BinOp.and IntKind.u8 (↑(UInt8.toNat (List.getD b at_ (0 : UInt8))) : Int) (63 : Int)) * (256 : Int))) (IntKind.wrap IntKind.i64 (↑(UInt8.toNat (List.getD b (Int.toNat (IntKind.wrap IntKind.i64 ((↑at_ : Int) + (1 : Int)))) (0 : UInt8))) : Int)))), AV.val (Value.int IntKind.i64 (IntKind.wrap IntKind.i64 ((↑at_ : Int) + (2 : Int)))), AV.val (Value.int IntKind.i64 (IntKind.wrap IntKind.i64 ((↑ld : Int) + (1 : Int)))), AV.val (Value.int IntKind.i64 (↑sz : Int)), AV.val (Value.slice none (0 : Nat) (0 : Nat))]] }) { t := (133 : Nat), sz := (6 : Nat), exact := true, fz := false, body := Body.rows [[AV.bytes b, AV.val (Value.int IntKind.i64 (↑(leadTo b at_) : Int)), AV.val (Value.int IntKind.i64 (↑(at_ + (2 : Nat)) : Int)), AV.val (Value.int IntKind.i64 (↑(ld + (1 : Nat)) : Int)), AV.val (Value.int IntKind.i64 (↑sz : Int)), AV.val (Value.slice none (0 : Nat) (0 : Nat))]] }]) := by kernel_rfl

set_option maxRecDepth 100000 in
theorem gt_ldb0 (b : List UInt8) (at_ : Nat) (nx : Int) (ld : Nat) (sz : Nat) : stepXS noneKnown [(41, { op := [(4, 5, .get)], br := [(27, false), (39, false), (63, true)], ob := [(4, 5), (12, 1)] }),
   (81, { op := [(3, 8, .get), (3, 22, .get), (5, 12, .br false)], gd := [(5, 7, false), (5, 8, false), (5, 9, false), (5, 10, false), (5, 11, false)], br := [(14, false), (60, false), (65, false)], ob := [(3, 8), (3, 22)] })] Try.prog 41 2 (gtG b at_ nx ld sz) (gtG b (leadTo b at_) nx (ld + (1 : Nat)) sz) [(0 : Nat)] 0 [] =
   some (.normal,
   [decide ((↑at_ : Int) ≥ (↑(List.length b) : Int)) = false,
   (0 : Int) ≤ (↑at_ : Int) ∧ at_ < List.length b,
   (IntKind.wrap IntKind.i64 (↑(UInt8.toNat (List.getD b at_ (0 : UInt8))) : Int) == (0 : Int)) = false,
   decide (IntKind.wrap IntKind.i64 (↑(UInt8.toNat (List.getD b at_ (0 : UInt8))) : Int) ≥ (192 : Int)) = true,
   decide (IntKind.wrap IntKind.i64 ((↑at_ : Int) + (1 : Int)) ≥ (↑(List.length b) : Int)) = false,
   (0 : Int) ≤ (↑at_ : Int) ∧ at_ < List.length b,
   (0 : Int) ≤ IntKind.wrap IntKind.i64 ((↑at_ : Int) + (1 : Int)) ∧ Int.toNat (IntKind.wrap IntKind.i64 ((↑at_ : Int) + (1 : Int))) < List.length b,
   decide (bits BinOp.or IntKind.i64 (IntKind.wrap IntKind.i64 (IntKind.wrap IntKind.i64 (bits BinOp.and IntKind.u8 (↑(UInt8.toNat (List.getD b at_ (0 : UInt8))) : Int) (63 : Int)) * (256 : Int))) (IntKind.wrap IntKind.i64 (↑(UInt8.toNat (List.getD b (Int.toNat (IntKind.wrap IntKind.i64 ((↑at_ : Int) + (1 : Int)))) (0 : UInt8))) : Int)) ≥ (↑at_ : Int)) = false,
   decide (bits BinOp.or IntKind.i64 (IntKind.wrap IntKind.i64 (IntKind.wrap IntKind.i64 (bits BinOp.and IntKind.u8 (↑(UInt8.toNat (List.getD b at_ (0 : UInt8))) : Int) (63 : Int)) * (256 : Int))) (IntKind.wrap IntKind.i64 (↑(UInt8.toNat (List.getD b (Int.toNat (IntKind.wrap IntKind.i64 ((↑at_ : Int) + (1 : Int)))) (0 : UInt8))) : Int)) ≥ (↑at_ : Int)) = false,
   decide (bits BinOp.or IntKind.i64 (IntKind.wrap IntKind.i64 (IntKind.wrap IntKind.i64 (bits BinOp.and IntKind.u8 (↑(UInt8.toNat (List.getD b at_ (0 : UInt8))) : Int) (63 : Int)) * (256 : Int))) (IntKind.wrap IntKind.i64 (↑(UInt8.toNat (List.getD b (Int.toNat (IntKind.wrap IntKind.i64 ((↑at_ : Int) + (1 : Int)))) (0 : UInt8))) : Int)) ≥ (↑at_ : Int)) = false,
   decide (bits BinOp.or IntKind.i64 (IntKind.wrap IntKind.i64 (IntKind.wrap IntKind.i64 (bits BinOp.and IntKind.u8 (↑(UInt8.toNat (List.getD b at_ (0 : UInt8))) : Int) (63 : Int)) * (256 : Int))) (IntKind.wrap IntKind.i64 (↑(UInt8.toNat (List.getD b (Int.toNat (IntKind.wrap IntKind.i64 ((↑at_ : Int) + (1 : Int)))) (0 : UInt8))) : Int)) ≥ (↑at_ : Int)) = false,
   decide (bits BinOp.or IntKind.i64 (IntKind.wrap IntKind.i64 (IntKind.wrap IntKind.i64 (bits BinOp.and IntKind.u8 (↑(UInt8.toNat (List.getD b at_ (0 : UInt8))) : Int) (63 : Int)) * (256 : Int))) (IntKind.wrap IntKind.i64 (↑(UInt8.toNat (List.getD b (Int.toNat (IntKind.wrap IntKind.i64 ((↑at_ : Int) + (1 : Int)))) (0 : UInt8))) : Int)) ≥ (↑at_ : Int)) = false,
   decide (bits BinOp.or IntKind.i64 (IntKind.wrap IntKind.i64 (IntKind.wrap IntKind.i64 (bits BinOp.and IntKind.u8 (↑(UInt8.toNat (List.getD b at_ (0 : UInt8))) : Int) (63 : Int)) * (256 : Int))) (IntKind.wrap IntKind.i64 (↑(UInt8.toNat (List.getD b (Int.toNat (IntKind.wrap IntKind.i64 ((↑at_ : Int) + (1 : Int)))) (0 : UInt8))) : Int)) ≥ (↑at_ : Int)) = false,
   decide (IntKind.wrap IntKind.i64 ((↑ld : Int) + (1 : Int)) > (64 : Int)) = false,
   decide (nx < (0 : Int)) = false,
   AV.bytes b = AV.bytes b,
   SameO (some { t := (133 : Nat), sz := (6 : Nat), exact := true, fz := false, body := Body.rows [[AV.bytes b, AV.val (Value.int IntKind.i64 (bits BinOp.or IntKind.i64 (IntKind.wrap IntKind.i64 (IntKind.wrap IntKind.i64 (bits BinOp.and IntKind.u8 (↑(UInt8.toNat (List.getD b at_ (0 : UInt8))) : Int) (63 : Int)) * (256 : Int))) (IntKind.wrap IntKind.i64 (↑(UInt8.toNat (List.getD b (Int.toNat (IntKind.wrap IntKind.i64 ((↑at_ : Int) + (1 : Int)))) (0 : UInt8))) : Int)))), AV.val (Value.int IntKind.i64 nx), AV.val (Value.int IntKind.i64 (IntKind.wrap IntKind.i64 ((↑ld : Int) + (1 : Int)))), AV.val (Value.int IntKind.i64 (↑sz : Int)), AV.val (Value.slice none (0 : Nat) (0 : Nat))]] }) { t := (133 : Nat), sz := (6 : Nat), exact := true, fz := false, body := Body.rows [[AV.bytes b, AV.val (Value.int IntKind.i64 (↑(leadTo b at_) : Int)), AV.val (Value.int IntKind.i64 nx), AV.val (Value.int IntKind.i64 (↑(ld + (1 : Nat)) : Int)), AV.val (Value.int IntKind.i64 (↑sz : Int)), AV.val (Value.slice none (0 : Nat) (0 : Nat))]] }]) := by kernel_rfl

set_option maxRecDepth 100000 in
theorem gt_big0 (b : List UInt8) (at_ : Nat) (nx : Int) (ld : Nat) (sz : Nat) : stepXS noneKnown [(41, { op := [(4, 5, .get)], br := [(27, false), (39, false), (63, false), (68, true)], ob := [(4, 5)] })] Try.prog 41 2 (gtG b at_ nx ld sz) (gtEB (4 : Int)) [] 0 [] =
   some (.ret,
   [decide ((↑at_ : Int) ≥ (↑(List.length b) : Int)) = false,
   (0 : Int) ≤ (↑at_ : Int) ∧ at_ < List.length b,
   (IntKind.wrap IntKind.i64 (↑(UInt8.toNat (List.getD b at_ (0 : UInt8))) : Int) == (0 : Int)) = false,
   decide (IntKind.wrap IntKind.i64 (↑(UInt8.toNat (List.getD b at_ (0 : UInt8))) : Int) ≥ (192 : Int)) = false,
   decide (IntKind.wrap IntKind.i64 (↑(UInt8.toNat (List.getD b at_ (0 : UInt8))) : Int) > (63 : Int)) = true,
   AV.val (Value.int IntKind.i64 (4 : Int)) = AV.val (Value.int IntKind.i64 (4 : Int))]) := by kernel_rfl

set_option maxRecDepth 100000 in
theorem gt_labshort0 (b : List UInt8) (at_ : Nat) (nx : Int) (ld : Nat) (sz : Nat) : stepXS noneKnown [(41, { op := [(4, 5, .get)], br := [(27, false), (39, false), (63, false), (68, false)], ob := [(4, 5), (6, 2)] }),
   (82, { br := [(17, true)] })] Try.prog 41 2 (gtG b at_ nx ld sz) (gtEB (3 : Int)) [] 0 [] =
   some (.ret,
   [decide ((↑at_ : Int) ≥ (↑(List.length b) : Int)) = false,
   (0 : Int) ≤ (↑at_ : Int) ∧ at_ < List.length b,
   (IntKind.wrap IntKind.i64 (↑(UInt8.toNat (List.getD b at_ (0 : UInt8))) : Int) == (0 : Int)) = false,
   decide (IntKind.wrap IntKind.i64 (↑(UInt8.toNat (List.getD b at_ (0 : UInt8))) : Int) ≥ (192 : Int)) = false,
   decide (IntKind.wrap IntKind.i64 (↑(UInt8.toNat (List.getD b at_ (0 : UInt8))) : Int) > (63 : Int)) = false,
   decide (IntKind.wrap IntKind.i64 (↑(UInt8.toNat (List.getD b at_ (0 : UInt8))) : Int) > IntKind.wrap IntKind.i64 (IntKind.wrap IntKind.i64 ((↑(List.length b) : Int) - (↑at_ : Int)) - (1 : Int))) = true,
   AV.val (Value.int IntKind.i64 (3 : Int)) = AV.val (Value.int IntKind.i64 (3 : Int))]) := by kernel_rfl

set_option maxRecDepth 100000 in
theorem gt_labsize0 (b : List UInt8) (at_ : Nat) (nx : Int) (ld : Nat) (sz : Nat) : stepXS noneKnown [(41, { op := [(4, 5, .get)], br := [(27, false), (39, false), (63, false), (68, false)], ob := [(4, 5), (6, 2)] }),
   (82, { br := [(17, false), (68, true)], ob := [(3, 21)] })] Try.prog 41 2 (gtG b at_ nx ld sz) (gtEB (4 : Int)) [] 0 [] =
   some (.ret,
   [decide ((↑at_ : Int) ≥ (↑(List.length b) : Int)) = false,
   (0 : Int) ≤ (↑at_ : Int) ∧ at_ < List.length b,
   (IntKind.wrap IntKind.i64 (↑(UInt8.toNat (List.getD b at_ (0 : UInt8))) : Int) == (0 : Int)) = false,
   decide (IntKind.wrap IntKind.i64 (↑(UInt8.toNat (List.getD b at_ (0 : UInt8))) : Int) ≥ (192 : Int)) = false,
   decide (IntKind.wrap IntKind.i64 (↑(UInt8.toNat (List.getD b at_ (0 : UInt8))) : Int) > (63 : Int)) = false,
   decide (IntKind.wrap IntKind.i64 (↑(UInt8.toNat (List.getD b at_ (0 : UInt8))) : Int) > IntKind.wrap IntKind.i64 (IntKind.wrap IntKind.i64 ((↑(List.length b) : Int) - (↑at_ : Int)) - (1 : Int))) = false,
   (0 : Int) ≤ IntKind.wrap IntKind.i64 ((↑at_ : Int) + (1 : Int)),
   (0 : Int) ≤ IntKind.wrap IntKind.i64 (IntKind.wrap IntKind.i64 ((↑at_ : Int) + (1 : Int)) + IntKind.wrap IntKind.i64 (↑(UInt8.toNat (List.getD b at_ (0 : UInt8))) : Int)),
   Int.toNat (IntKind.wrap IntKind.i64 ((↑at_ : Int) + (1 : Int))) ≤ Int.toNat (IntKind.wrap IntKind.i64 (IntKind.wrap IntKind.i64 ((↑at_ : Int) + (1 : Int)) + IntKind.wrap IntKind.i64 (↑(UInt8.toNat (List.getD b at_ (0 : UInt8))) : Int))) ∧ Int.toNat (IntKind.wrap IntKind.i64 (IntKind.wrap IntKind.i64 ((↑at_ : Int) + (1 : Int)) + IntKind.wrap IntKind.i64 (↑(UInt8.toNat (List.getD b at_ (0 : UInt8))) : Int))) ≤ List.length b,
   decide (IntKind.wrap IntKind.i64 (IntKind.wrap IntKind.i64 ((↑sz : Int) + IntKind.wrap IntKind.i64 ((1 : Int) + IntKind.wrap IntKind.i64 (↑(UInt8.toNat (List.getD b at_ (0 : UInt8))) : Int))) + (1 : Int)) > (255 : Int)) = true,
   AV.val (Value.int IntKind.i64 (4 : Int)) = AV.val (Value.int IntKind.i64 (4 : Int))]) := by kernel_rfl

set_option maxRecDepth 100000 in
theorem gt_lab0 (b : List UInt8) (at_ : Nat) (nx : Int) (ld : Nat) (sz : Nat) : stepXS noneKnown [(41, { op := [(4, 5, .get)], br := [(27, false), (39, false), (63, false), (68, false)], ob := [(4, 5), (6, 2)] }),
   (82, { br := [(17, false), (68, false)], ob := [(3, 21)] })] Try.prog 41 2 (gtG b at_ nx ld sz) (gtG1r b (at_ + (1 : Nat) + UInt8.toNat (List.getD b at_ (0 : UInt8))) nx ld (sz + (1 : Nat) + UInt8.toNat (List.getD b at_ (0 : UInt8))) [List.take (UInt8.toNat (List.getD b at_ (0 : UInt8))) (List.drop (at_ + (1 : Nat)) b)]) [(0 : Nat), (76 : Nat)] 0 [] =
   some (.normal,
   [decide ((↑at_ : Int) ≥ (↑(List.length b) : Int)) = false,
   (0 : Int) ≤ (↑at_ : Int) ∧ at_ < List.length b,
   (IntKind.wrap IntKind.i64 (↑(UInt8.toNat (List.getD b at_ (0 : UInt8))) : Int) == (0 : Int)) = false,
   decide (IntKind.wrap IntKind.i64 (↑(UInt8.toNat (List.getD b at_ (0 : UInt8))) : Int) ≥ (192 : Int)) = false,
   decide (IntKind.wrap IntKind.i64 (↑(UInt8.toNat (List.getD b at_ (0 : UInt8))) : Int) > (63 : Int)) = false,
   decide (IntKind.wrap IntKind.i64 (↑(UInt8.toNat (List.getD b at_ (0 : UInt8))) : Int) > IntKind.wrap IntKind.i64 (IntKind.wrap IntKind.i64 ((↑(List.length b) : Int) - (↑at_ : Int)) - (1 : Int))) = false,
   (0 : Int) ≤ IntKind.wrap IntKind.i64 ((↑at_ : Int) + (1 : Int)),
   (0 : Int) ≤ IntKind.wrap IntKind.i64 (IntKind.wrap IntKind.i64 ((↑at_ : Int) + (1 : Int)) + IntKind.wrap IntKind.i64 (↑(UInt8.toNat (List.getD b at_ (0 : UInt8))) : Int)),
   Int.toNat (IntKind.wrap IntKind.i64 ((↑at_ : Int) + (1 : Int))) ≤ Int.toNat (IntKind.wrap IntKind.i64 (IntKind.wrap IntKind.i64 ((↑at_ : Int) + (1 : Int)) + IntKind.wrap IntKind.i64 (↑(UInt8.toNat (List.getD b at_ (0 : UInt8))) : Int))) ∧ Int.toNat (IntKind.wrap IntKind.i64 (IntKind.wrap IntKind.i64 ((↑at_ : Int) + (1 : Int)) + IntKind.wrap IntKind.i64 (↑(UInt8.toNat (List.getD b at_ (0 : UInt8))) : Int))) ≤ List.length b,
   decide (IntKind.wrap IntKind.i64 (IntKind.wrap IntKind.i64 ((↑sz : Int) + IntKind.wrap IntKind.i64 ((1 : Int) + IntKind.wrap IntKind.i64 (↑(UInt8.toNat (List.getD b at_ (0 : UInt8))) : Int))) + (1 : Int)) > (255 : Int)) = false,
   AV.bytes b = AV.bytes b,
   SameO (some { t := (133 : Nat), sz := (6 : Nat), exact := true, fz := false, body := Body.rows [[AV.bytes b, AV.val (Value.int IntKind.i64 (IntKind.wrap IntKind.i64 ((↑at_ : Int) + IntKind.wrap IntKind.i64 ((1 : Int) + IntKind.wrap IntKind.i64 (↑(UInt8.toNat (List.getD b at_ (0 : UInt8))) : Int))))), AV.val (Value.int IntKind.i64 nx), AV.val (Value.int IntKind.i64 (↑ld : Int)), AV.val (Value.int IntKind.i64 (IntKind.wrap IntKind.i64 ((↑sz : Int) + IntKind.wrap IntKind.i64 ((1 : Int) + IntKind.wrap IntKind.i64 (↑(UInt8.toNat (List.getD b at_ (0 : UInt8))) : Int))))), AV.sl 76 (0 : Nat) (1 : Nat) none]] }) { t := (133 : Nat), sz := (6 : Nat), exact := true, fz := false, body := Body.rows [[AV.bytes b, AV.val (Value.int IntKind.i64 (↑(at_ + (1 : Nat) + UInt8.toNat (List.getD b at_ (0 : UInt8))) : Int)), AV.val (Value.int IntKind.i64 nx), AV.val (Value.int IntKind.i64 (↑ld : Int)), AV.val (Value.int IntKind.i64 (↑(sz + (1 : Nat) + UInt8.toNat (List.getD b at_ (0 : UInt8))) : Int)), AV.sl (76 : Nat) (0 : Nat) (1 : Nat) none]] },
   SameO (some { t := (9 : Nat), sz := (1 : Nat), exact := false, fz := false, body := Body.rows [[AV.val (Value.string { data := List.toArray (List.drop (Int.toNat (IntKind.wrap IntKind.i64 ((↑at_ : Int) + (1 : Int)))) (List.take (Int.toNat (IntKind.wrap IntKind.i64 (IntKind.wrap IntKind.i64 ((↑at_ : Int) + (1 : Int)) + IntKind.wrap IntKind.i64 (↑(UInt8.toNat (List.getD b at_ (0 : UInt8))) : Int)))) b)) })]] }) { t := (9 : Nat), sz := (1 : Nat), exact := false, fz := false, body := Body.rows [[AV.val (Value.string { data := List.toArray (List.take (UInt8.toNat (List.getD b at_ (0 : UInt8))) (List.drop (at_ + (1 : Nat)) b)) })]] }]) := by kernel_rfl

set_option maxRecDepth 100000 in
theorem gt_short1 (b : List UInt8) (at_ : Nat) (nx : Int) (ld : Nat) (sz : Nat) (l : List (List UInt8)) : stepXS noneKnown [(41, { br := [(27, true)] })] Try.prog 41 2 (gtG1 b at_ nx ld sz l) (gtEB (3 : Int)) [] 0 [] =
   some (.ret,
   [decide ((↑at_ : Int) ≥ (↑(List.length b) : Int)) = true,
   AV.val (Value.int IntKind.i64 (3 : Int)) = AV.val (Value.int IntKind.i64 (3 : Int))]) := by kernel_rfl

set_option maxRecDepth 100000 in
theorem gt_enda1 (b : List UInt8) (at_ : Nat) (nx : Int) (ld : Nat) (sz : Nat) (l : List (List UInt8)) : stepXS noneKnown [(41, { op := [(4, 5, .get)], br := [(27, false), (39, true), (46, true)], ob := [(4, 5)] })] Try.prog 41 2 (gtG1 b at_ nx ld sz l) (gtE1 l (↑(at_ + (1 : Nat)) : Int)) [(1 : Nat)] 0 [] =
   some (.ret,
   [decide ((↑at_ : Int) ≥ (↑(List.length b) : Int)) = false,
   (0 : Int) ≤ (↑at_ : Int) ∧ at_ < List.length b,
   (IntKind.wrap IntKind.i64 (↑(UInt8.toNat (List.getD b at_ (0 : UInt8))) : Int) == (0 : Int)) = true,
   decide (nx < (0 : Int)) = true,
   AV.sl (1 : Nat) (0 : Nat) (List.length l) none = AV.sl (1 : Nat) (0 : Nat) (List.length l) none,
   AV.val (Value.int IntKind.i64 (IntKind.wrap IntKind.i64 ((↑at_ : Int) + (1 : Int)))) = AV.val (Value.int IntKind.i64 (↑(at_ + (1 : Nat)) : Int)),
   SameO (some { t := (9 : Nat), sz := (1 : Nat), exact := false, fz := false, body := Body.flat (rowsL l) }) { t := (9 : Nat), sz := (1 : Nat), exact := false, fz := false, body := Body.flat (List.map (fun x => (AV.brecOn_1.go x (AV.ren._f (renX 0 [(1 : Nat)] 54)) (renL._f (renX 0 [(1 : Nat)] 54))).1) (rowsL l)) }]) := by kernel_rfl

set_option maxRecDepth 100000 in
theorem gt_endb1 (b : List UInt8) (at_ : Nat) (nx : Int) (ld : Nat) (sz : Nat) (l : List (List UInt8)) : stepXS noneKnown [(41, { op := [(4, 5, .get)], br := [(27, false), (39, true), (46, false)], ob := [(4, 5)] })] Try.prog 41 2 (gtG1 b at_ nx ld sz l) (gtE1 l nx) [(1 : Nat)] 0 [] =
   some (.ret,
   [decide ((↑at_ : Int) ≥ (↑(List.length b) : Int)) = false,
   (0 : Int) ≤ (↑at_ : Int) ∧ at_ < List.length b,
   (IntKind.wrap IntKind.i64 (↑(UInt8.toNat (List.getD b at_ (0 : UInt8))) : Int) == (0 : Int)) = true,
   decide (nx < (0 : Int)) = false,
   AV.sl (1 : Nat) (0 : Nat) (List.length l) none = AV.sl (1 : Nat) (0 : Nat) (List.length l) none,
   AV.val (Value.int IntKind.i64 nx) = AV.val (Value.int IntKind.i64 nx),
   SameO (some { t := (9 : Nat), sz := (1 : Nat), exact := false, fz := false, body := Body.flat (rowsL l) }) { t := (9 : Nat), sz := (1 : Nat), exact := false, fz := false, body := Body.flat (List.map (fun x => (AV.brecOn_1.go x (AV.ren._f (renX 0 [(1 : Nat)] 45)) (renL._f (renX 0 [(1 : Nat)] 45))).1) (rowsL l)) }]) := by kernel_rfl

set_option maxRecDepth 100000 in
theorem gt_ldshort1 (b : List UInt8) (at_ : Nat) (nx : Int) (ld : Nat) (sz : Nat) (l : List (List UInt8)) : stepXS noneKnown [(41, { op := [(4, 5, .get)], br := [(27, false), (39, false), (63, true)], ob := [(4, 5), (12, 1)] }),
   (81, { br := [(14, true)] })] Try.prog 41 2 (gtG1 b at_ nx ld sz l) (gtEB (3 : Int)) [] 0 [] =
   some (.ret,
   [decide ((↑at_ : Int) ≥ (↑(List.length b) : Int)) = false,
   (0 : Int) ≤ (↑at_ : Int) ∧ at_ < List.length b,
   (IntKind.wrap IntKind.i64 (↑(UInt8.toNat (List.getD b at_ (0 : UInt8))) : Int) == (0 : Int)) = false,
   decide (IntKind.wrap IntKind.i64 (↑(UInt8.toNat (List.getD b at_ (0 : UInt8))) : Int) ≥ (192 : Int)) = true,
   decide (IntKind.wrap IntKind.i64 ((↑at_ : Int) + (1 : Int)) ≥ (↑(List.length b) : Int)) = true,
   AV.val (Value.int IntKind.i64 (3 : Int)) = AV.val (Value.int IntKind.i64 (3 : Int))]) := by kernel_rfl

set_option maxRecDepth 100000 in
theorem gt_ldto1 (b : List UInt8) (at_ : Nat) (nx : Int) (ld : Nat) (sz : Nat) (l : List (List UInt8)) : stepXS noneKnown [(41, { op := [(4, 5, .get)], br := [(27, false), (39, false), (63, true)], ob := [(4, 5), (12, 1)] }),
   (81, { op := [(3, 8, .get), (3, 22, .get), (5, 12, .br true)], gd := [(5, 7, true), (5, 8, true), (5, 9, true), (5, 10, true), (5, 11, true)], br := [(14, false)], ob := [(3, 8), (3, 22)] })] Try.prog 41 2 (gtG1 b at_ nx ld sz l) (gtEB (4 : Int)) [] 0 [] =
   some (.ret,
   [decide ((↑at_ : Int) ≥ (↑(List.length b) : Int)) = false,
   (0 : Int) ≤ (↑at_ : Int) ∧ at_ < List.length b,
   (IntKind.wrap IntKind.i64 (↑(UInt8.toNat (List.getD b at_ (0 : UInt8))) : Int) == (0 : Int)) = false,
   decide (IntKind.wrap IntKind.i64 (↑(UInt8.toNat (List.getD b at_ (0 : UInt8))) : Int) ≥ (192 : Int)) = true,
   decide (IntKind.wrap IntKind.i64 ((↑at_ : Int) + (1 : Int)) ≥ (↑(List.length b) : Int)) = false,
   (0 : Int) ≤ (↑at_ : Int) ∧ at_ < List.length b,
   (0 : Int) ≤ IntKind.wrap IntKind.i64 ((↑at_ : Int) + (1 : Int)) ∧ Int.toNat (IntKind.wrap IntKind.i64 ((↑at_ : Int) + (1 : Int))) < List.length b,
   decide (bits BinOp.or IntKind.i64 (IntKind.wrap IntKind.i64 (IntKind.wrap IntKind.i64 (bits BinOp.and IntKind.u8 (↑(UInt8.toNat (List.getD b at_ (0 : UInt8))) : Int) (63 : Int)) * (256 : Int))) (IntKind.wrap IntKind.i64 (↑(UInt8.toNat (List.getD b (Int.toNat (IntKind.wrap IntKind.i64 ((↑at_ : Int) + (1 : Int)))) (0 : UInt8))) : Int)) ≥ (↑at_ : Int)) = true,
   decide (bits BinOp.or IntKind.i64 (IntKind.wrap IntKind.i64 (IntKind.wrap IntKind.i64 (bits BinOp.and IntKind.u8 (↑(UInt8.toNat (List.getD b at_ (0 : UInt8))) : Int) (63 : Int)) * (256 : Int))) (IntKind.wrap IntKind.i64 (↑(UInt8.toNat (List.getD b (Int.toNat (IntKind.wrap IntKind.i64 ((↑at_ : Int) + (1 : Int)))) (0 : UInt8))) : Int)) ≥ (↑at_ : Int)) = true,
   decide (bits BinOp.or IntKind.i64 (IntKind.wrap IntKind.i64 (IntKind.wrap IntKind.i64 (bits BinOp.and IntKind.u8 (↑(UInt8.toNat (List.getD b at_ (0 : UInt8))) : Int) (63 : Int)) * (256 : Int))) (IntKind.wrap IntKind.i64 (↑(UInt8.toNat (List.getD b (Int.toNat (IntKind.wrap IntKind.i64 ((↑at_ : Int) + (1 : Int)))) (0 : UInt8))) : Int)) ≥ (↑at_ : Int)) = true,
   decide (bits BinOp.or IntKind.i64 (IntKind.wrap IntKind.i64 (IntKind.wrap IntKind.i64 (bits BinOp.and IntKind.u8 (↑(UInt8.toNat (List.getD b at_ (0 : UInt8))) : Int) (63 : Int)) * (256 : Int))) (IntKind.wrap IntKind.i64 (↑(UInt8.toNat (List.getD b (Int.toNat (IntKind.wrap IntKind.i64 ((↑at_ : Int) + (1 : Int)))) (0 : UInt8))) : Int)) ≥ (↑at_ : Int)) = true,
   decide (bits BinOp.or IntKind.i64 (IntKind.wrap IntKind.i64 (IntKind.wrap IntKind.i64 (bits BinOp.and IntKind.u8 (↑(UInt8.toNat (List.getD b at_ (0 : UInt8))) : Int) (63 : Int)) * (256 : Int))) (IntKind.wrap IntKind.i64 (↑(UInt8.toNat (List.getD b (Int.toNat (IntKind.wrap IntKind.i64 ((↑at_ : Int) + (1 : Int)))) (0 : UInt8))) : Int)) ≥ (↑at_ : Int)) = true,
   decide (bits BinOp.or IntKind.i64 (IntKind.wrap IntKind.i64 (IntKind.wrap IntKind.i64 (bits BinOp.and IntKind.u8 (↑(UInt8.toNat (List.getD b at_ (0 : UInt8))) : Int) (63 : Int)) * (256 : Int))) (IntKind.wrap IntKind.i64 (↑(UInt8.toNat (List.getD b (Int.toNat (IntKind.wrap IntKind.i64 ((↑at_ : Int) + (1 : Int)))) (0 : UInt8))) : Int)) ≥ (↑at_ : Int)) = true,
   AV.val (Value.int IntKind.i64 (4 : Int)) = AV.val (Value.int IntKind.i64 (4 : Int))]) := by kernel_rfl

set_option maxRecDepth 100000 in
theorem gt_ldmany1 (b : List UInt8) (at_ : Nat) (nx : Int) (ld : Nat) (sz : Nat) (l : List (List UInt8)) : stepXS noneKnown [(41, { op := [(4, 5, .get)], br := [(27, false), (39, false), (63, true)], ob := [(4, 5), (12, 1)] }),
   (81, { op := [(3, 8, .get), (3, 22, .get), (5, 12, .br false)], gd := [(5, 7, false), (5, 8, false), (5, 9, false), (5, 10, false), (5, 11, false)], br := [(14, false), (60, true)], ob := [(3, 8), (3, 22)] })] Try.prog 41 2 (gtG1 b at_ nx ld sz l) (gtEB (4 : Int)) [] 0 [] =
   some (.ret,
   [decide ((↑at_ : Int) ≥ (↑(List.length b) : Int)) = false,
   (0 : Int) ≤ (↑at_ : Int) ∧ at_ < List.length b,
   (IntKind.wrap IntKind.i64 (↑(UInt8.toNat (List.getD b at_ (0 : UInt8))) : Int) == (0 : Int)) = false,
   decide (IntKind.wrap IntKind.i64 (↑(UInt8.toNat (List.getD b at_ (0 : UInt8))) : Int) ≥ (192 : Int)) = true,
   decide (IntKind.wrap IntKind.i64 ((↑at_ : Int) + (1 : Int)) ≥ (↑(List.length b) : Int)) = false,
   (0 : Int) ≤ (↑at_ : Int) ∧ at_ < List.length b,
   (0 : Int) ≤ IntKind.wrap IntKind.i64 ((↑at_ : Int) + (1 : Int)) ∧ Int.toNat (IntKind.wrap IntKind.i64 ((↑at_ : Int) + (1 : Int))) < List.length b,
   decide (bits BinOp.or IntKind.i64 (IntKind.wrap IntKind.i64 (IntKind.wrap IntKind.i64 (bits BinOp.and IntKind.u8 (↑(UInt8.toNat (List.getD b at_ (0 : UInt8))) : Int) (63 : Int)) * (256 : Int))) (IntKind.wrap IntKind.i64 (↑(UInt8.toNat (List.getD b (Int.toNat (IntKind.wrap IntKind.i64 ((↑at_ : Int) + (1 : Int)))) (0 : UInt8))) : Int)) ≥ (↑at_ : Int)) = false,
   decide (bits BinOp.or IntKind.i64 (IntKind.wrap IntKind.i64 (IntKind.wrap IntKind.i64 (bits BinOp.and IntKind.u8 (↑(UInt8.toNat (List.getD b at_ (0 : UInt8))) : Int) (63 : Int)) * (256 : Int))) (IntKind.wrap IntKind.i64 (↑(UInt8.toNat (List.getD b (Int.toNat (IntKind.wrap IntKind.i64 ((↑at_ : Int) + (1 : Int)))) (0 : UInt8))) : Int)) ≥ (↑at_ : Int)) = false,
   decide (bits BinOp.or IntKind.i64 (IntKind.wrap IntKind.i64 (IntKind.wrap IntKind.i64 (bits BinOp.and IntKind.u8 (↑(UInt8.toNat (List.getD b at_ (0 : UInt8))) : Int) (63 : Int)) * (256 : Int))) (IntKind.wrap IntKind.i64 (↑(UInt8.toNat (List.getD b (Int.toNat (IntKind.wrap IntKind.i64 ((↑at_ : Int) + (1 : Int)))) (0 : UInt8))) : Int)) ≥ (↑at_ : Int)) = false,
   decide (bits BinOp.or IntKind.i64 (IntKind.wrap IntKind.i64 (IntKind.wrap IntKind.i64 (bits BinOp.and IntKind.u8 (↑(UInt8.toNat (List.getD b at_ (0 : UInt8))) : Int) (63 : Int)) * (256 : Int))) (IntKind.wrap IntKind.i64 (↑(UInt8.toNat (List.getD b (Int.toNat (IntKind.wrap IntKind.i64 ((↑at_ : Int) + (1 : Int)))) (0 : UInt8))) : Int)) ≥ (↑at_ : Int)) = false,
   decide (bits BinOp.or IntKind.i64 (IntKind.wrap IntKind.i64 (IntKind.wrap IntKind.i64 (bits BinOp.and IntKind.u8 (↑(UInt8.toNat (List.getD b at_ (0 : UInt8))) : Int) (63 : Int)) * (256 : Int))) (IntKind.wrap IntKind.i64 (↑(UInt8.toNat (List.getD b (Int.toNat (IntKind.wrap IntKind.i64 ((↑at_ : Int) + (1 : Int)))) (0 : UInt8))) : Int)) ≥ (↑at_ : Int)) = false,
   decide (bits BinOp.or IntKind.i64 (IntKind.wrap IntKind.i64 (IntKind.wrap IntKind.i64 (bits BinOp.and IntKind.u8 (↑(UInt8.toNat (List.getD b at_ (0 : UInt8))) : Int) (63 : Int)) * (256 : Int))) (IntKind.wrap IntKind.i64 (↑(UInt8.toNat (List.getD b (Int.toNat (IntKind.wrap IntKind.i64 ((↑at_ : Int) + (1 : Int)))) (0 : UInt8))) : Int)) ≥ (↑at_ : Int)) = false,
   decide (IntKind.wrap IntKind.i64 ((↑ld : Int) + (1 : Int)) > (64 : Int)) = true,
   AV.val (Value.int IntKind.i64 (4 : Int)) = AV.val (Value.int IntKind.i64 (4 : Int))]) := by kernel_rfl

set_option maxRecDepth 100000 in
theorem gt_lda1 (b : List UInt8) (at_ : Nat) (nx : Int) (ld : Nat) (sz : Nat) (l : List (List UInt8)) : stepXS noneKnown [(41, { op := [(4, 5, .get)], br := [(27, false), (39, false), (63, true)], ob := [(4, 5), (12, 1)] }),
   (81, { op := [(3, 8, .get), (3, 22, .get), (5, 12, .br false)], gd := [(5, 7, false), (5, 8, false), (5, 9, false), (5, 10, false), (5, 11, false)], br := [(14, false), (60, false), (65, true)], ob := [(3, 8), (3, 22)] })] Try.prog 41 2 (gtG1 b at_ nx ld sz l) (gtG1 b (leadTo b at_) (↑(at_ + (2 : Nat)) : Int) (ld + (1 : Nat)) sz l) [(0 : Nat), (1 : Nat)] 0 [] =
   some (.normal,
   [decide ((↑at_ : Int) ≥ (↑(List.length b) : Int)) = false,
   (0 : Int) ≤ (↑at_ : Int) ∧ at_ < List.length b,
   (IntKind.wrap IntKind.i64 (↑(UInt8.toNat (List.getD b at_ (0 : UInt8))) : Int) == (0 : Int)) = false,
   decide (IntKind.wrap IntKind.i64 (↑(UInt8.toNat (List.getD b at_ (0 : UInt8))) : Int) ≥ (192 : Int)) = true,
   decide (IntKind.wrap IntKind.i64 ((↑at_ : Int) + (1 : Int)) ≥ (↑(List.length b) : Int)) = false,
   (0 : Int) ≤ (↑at_ : Int) ∧ at_ < List.length b,
   (0 : Int) ≤ IntKind.wrap IntKind.i64 ((↑at_ : Int) + (1 : Int)) ∧ Int.toNat (IntKind.wrap IntKind.i64 ((↑at_ : Int) + (1 : Int))) < List.length b,
   decide (bits BinOp.or IntKind.i64 (IntKind.wrap IntKind.i64 (IntKind.wrap IntKind.i64 (bits BinOp.and IntKind.u8 (↑(UInt8.toNat (List.getD b at_ (0 : UInt8))) : Int) (63 : Int)) * (256 : Int))) (IntKind.wrap IntKind.i64 (↑(UInt8.toNat (List.getD b (Int.toNat (IntKind.wrap IntKind.i64 ((↑at_ : Int) + (1 : Int)))) (0 : UInt8))) : Int)) ≥ (↑at_ : Int)) = false,
   decide (bits BinOp.or IntKind.i64 (IntKind.wrap IntKind.i64 (IntKind.wrap IntKind.i64 (bits BinOp.and IntKind.u8 (↑(UInt8.toNat (List.getD b at_ (0 : UInt8))) : Int) (63 : Int)) * (256 : Int))) (IntKind.wrap IntKind.i64 (↑(UInt8.toNat (List.getD b (Int.toNat (IntKind.wrap IntKind.i64 ((↑at_ : Int) + (1 : Int)))) (0 : UInt8))) : Int)) ≥ (↑at_ : Int)) = false,
   decide (bits BinOp.or IntKind.i64 (IntKind.wrap IntKind.i64 (IntKind.wrap IntKind.i64 (bits BinOp.and IntKind.u8 (↑(UInt8.toNat (List.getD b at_ (0 : UInt8))) : Int) (63 : Int)) * (256 : Int))) (IntKind.wrap IntKind.i64 (↑(UInt8.toNat (List.getD b (Int.toNat (IntKind.wrap IntKind.i64 ((↑at_ : Int) + (1 : Int)))) (0 : UInt8))) : Int)) ≥ (↑at_ : Int)) = false,
   decide (bits BinOp.or IntKind.i64 (IntKind.wrap IntKind.i64 (IntKind.wrap IntKind.i64 (bits BinOp.and IntKind.u8 (↑(UInt8.toNat (List.getD b at_ (0 : UInt8))) : Int) (63 : Int)) * (256 : Int))) (IntKind.wrap IntKind.i64 (↑(UInt8.toNat (List.getD b (Int.toNat (IntKind.wrap IntKind.i64 ((↑at_ : Int) + (1 : Int)))) (0 : UInt8))) : Int)) ≥ (↑at_ : Int)) = false,
   decide (bits BinOp.or IntKind.i64 (IntKind.wrap IntKind.i64 (IntKind.wrap IntKind.i64 (bits BinOp.and IntKind.u8 (↑(UInt8.toNat (List.getD b at_ (0 : UInt8))) : Int) (63 : Int)) * (256 : Int))) (IntKind.wrap IntKind.i64 (↑(UInt8.toNat (List.getD b (Int.toNat (IntKind.wrap IntKind.i64 ((↑at_ : Int) + (1 : Int)))) (0 : UInt8))) : Int)) ≥ (↑at_ : Int)) = false,
   decide (bits BinOp.or IntKind.i64 (IntKind.wrap IntKind.i64 (IntKind.wrap IntKind.i64 (bits BinOp.and IntKind.u8 (↑(UInt8.toNat (List.getD b at_ (0 : UInt8))) : Int) (63 : Int)) * (256 : Int))) (IntKind.wrap IntKind.i64 (↑(UInt8.toNat (List.getD b (Int.toNat (IntKind.wrap IntKind.i64 ((↑at_ : Int) + (1 : Int)))) (0 : UInt8))) : Int)) ≥ (↑at_ : Int)) = false,
   decide (IntKind.wrap IntKind.i64 ((↑ld : Int) + (1 : Int)) > (64 : Int)) = false,
   decide (nx < (0 : Int)) = true,
   AV.bytes b = AV.bytes b,
   SameO (some { t := (133 : Nat), sz := (6 : Nat), exact := true, fz := false, body := Body.rows [[AV.bytes b, AV.val (Value.int IntKind.i64 (bits BinOp.or IntKind.i64 (IntKind.wrap IntKind.i64 (IntKind.wrap IntKind.i64 (bits BinOp.and IntKind.u8 (↑(UInt8.toNat (List.getD b at_ (0 : UInt8))) : Int) (63 : Int)) * (256 : Int))) (IntKind.wrap IntKind.i64 (↑(UInt8.toNat (List.getD b (Int.toNat (IntKind.wrap IntKind.i64 ((↑at_ : Int) + (1 : Int)))) (0 : UInt8))) : Int)))), AV.val (Value.int IntKind.i64 (IntKind.wrap IntKind.i64 ((↑at_ : Int) + (2 : Int)))), AV.val (Value.int IntKind.i64 (IntKind.wrap IntKind.i64 ((↑ld : Int) + (1 : Int)))), AV.val (Value.int IntKind.i64 (↑sz : Int)), AV.sl (1 : Nat) (0 : Nat) (List.length l) none]] }) { t := (133 : Nat), sz := (6 : Nat), exact := true, fz := false, body := Body.rows [[AV.bytes b, AV.val (Value.int IntKind.i64 (↑(leadTo b at_) : Int)), AV.val (Value.int IntKind.i64 (↑(at_ + (2 : Nat)) : Int)), AV.val (Value.int IntKind.i64 (↑(ld + (1 : Nat)) : Int)), AV.val (Value.int IntKind.i64 (↑sz : Int)), AV.sl (1 : Nat) (0 : Nat) (List.length l) none]] },
   SameO (some { t := (9 : Nat), sz := (1 : Nat), exact := false, fz := false, body := Body.flat (rowsL l) }) { t := (9 : Nat), sz := (1 : Nat), exact := false, fz := false, body := Body.flat (List.map (fun x => (AV.brecOn_1.go x (AV.ren._f (renX 0 [(0 : Nat), (1 : Nat)] 117)) (renL._f (renX 0 [(0 : Nat), (1 : Nat)] 117))).1) (rowsL l)) }]) := by kernel_rfl

set_option maxRecDepth 100000 in
theorem gt_ldb1 (b : List UInt8) (at_ : Nat) (nx : Int) (ld : Nat) (sz : Nat) (l : List (List UInt8)) : stepXS noneKnown [(41, { op := [(4, 5, .get)], br := [(27, false), (39, false), (63, true)], ob := [(4, 5), (12, 1)] }),
   (81, { op := [(3, 8, .get), (3, 22, .get), (5, 12, .br false)], gd := [(5, 7, false), (5, 8, false), (5, 9, false), (5, 10, false), (5, 11, false)], br := [(14, false), (60, false), (65, false)], ob := [(3, 8), (3, 22)] })] Try.prog 41 2 (gtG1 b at_ nx ld sz l) (gtG1 b (leadTo b at_) nx (ld + (1 : Nat)) sz l) [(0 : Nat), (1 : Nat)] 0 [] =
   some (.normal,
   [decide ((↑at_ : Int) ≥ (↑(List.length b) : Int)) = false,
   (0 : Int) ≤ (↑at_ : Int) ∧ at_ < List.length b,
   (IntKind.wrap IntKind.i64 (↑(UInt8.toNat (List.getD b at_ (0 : UInt8))) : Int) == (0 : Int)) = false,
   decide (IntKind.wrap IntKind.i64 (↑(UInt8.toNat (List.getD b at_ (0 : UInt8))) : Int) ≥ (192 : Int)) = true,
   decide (IntKind.wrap IntKind.i64 ((↑at_ : Int) + (1 : Int)) ≥ (↑(List.length b) : Int)) = false,
   (0 : Int) ≤ (↑at_ : Int) ∧ at_ < List.length b,
   (0 : Int) ≤ IntKind.wrap IntKind.i64 ((↑at_ : Int) + (1 : Int)) ∧ Int.toNat (IntKind.wrap IntKind.i64 ((↑at_ : Int) + (1 : Int))) < List.length b,
   decide (bits BinOp.or IntKind.i64 (IntKind.wrap IntKind.i64 (IntKind.wrap IntKind.i64 (bits BinOp.and IntKind.u8 (↑(UInt8.toNat (List.getD b at_ (0 : UInt8))) : Int) (63 : Int)) * (256 : Int))) (IntKind.wrap IntKind.i64 (↑(UInt8.toNat (List.getD b (Int.toNat (IntKind.wrap IntKind.i64 ((↑at_ : Int) + (1 : Int)))) (0 : UInt8))) : Int)) ≥ (↑at_ : Int)) = false,
   decide (bits BinOp.or IntKind.i64 (IntKind.wrap IntKind.i64 (IntKind.wrap IntKind.i64 (bits BinOp.and IntKind.u8 (↑(UInt8.toNat (List.getD b at_ (0 : UInt8))) : Int) (63 : Int)) * (256 : Int))) (IntKind.wrap IntKind.i64 (↑(UInt8.toNat (List.getD b (Int.toNat (IntKind.wrap IntKind.i64 ((↑at_ : Int) + (1 : Int)))) (0 : UInt8))) : Int)) ≥ (↑at_ : Int)) = false,
   decide (bits BinOp.or IntKind.i64 (IntKind.wrap IntKind.i64 (IntKind.wrap IntKind.i64 (bits BinOp.and IntKind.u8 (↑(UInt8.toNat (List.getD b at_ (0 : UInt8))) : Int) (63 : Int)) * (256 : Int))) (IntKind.wrap IntKind.i64 (↑(UInt8.toNat (List.getD b (Int.toNat (IntKind.wrap IntKind.i64 ((↑at_ : Int) + (1 : Int)))) (0 : UInt8))) : Int)) ≥ (↑at_ : Int)) = false,
   decide (bits BinOp.or IntKind.i64 (IntKind.wrap IntKind.i64 (IntKind.wrap IntKind.i64 (bits BinOp.and IntKind.u8 (↑(UInt8.toNat (List.getD b at_ (0 : UInt8))) : Int) (63 : Int)) * (256 : Int))) (IntKind.wrap IntKind.i64 (↑(UInt8.toNat (List.getD b (Int.toNat (IntKind.wrap IntKind.i64 ((↑at_ : Int) + (1 : Int)))) (0 : UInt8))) : Int)) ≥ (↑at_ : Int)) = false,
   decide (bits BinOp.or IntKind.i64 (IntKind.wrap IntKind.i64 (IntKind.wrap IntKind.i64 (bits BinOp.and IntKind.u8 (↑(UInt8.toNat (List.getD b at_ (0 : UInt8))) : Int) (63 : Int)) * (256 : Int))) (IntKind.wrap IntKind.i64 (↑(UInt8.toNat (List.getD b (Int.toNat (IntKind.wrap IntKind.i64 ((↑at_ : Int) + (1 : Int)))) (0 : UInt8))) : Int)) ≥ (↑at_ : Int)) = false,
   decide (bits BinOp.or IntKind.i64 (IntKind.wrap IntKind.i64 (IntKind.wrap IntKind.i64 (bits BinOp.and IntKind.u8 (↑(UInt8.toNat (List.getD b at_ (0 : UInt8))) : Int) (63 : Int)) * (256 : Int))) (IntKind.wrap IntKind.i64 (↑(UInt8.toNat (List.getD b (Int.toNat (IntKind.wrap IntKind.i64 ((↑at_ : Int) + (1 : Int)))) (0 : UInt8))) : Int)) ≥ (↑at_ : Int)) = false,
   decide (IntKind.wrap IntKind.i64 ((↑ld : Int) + (1 : Int)) > (64 : Int)) = false,
   decide (nx < (0 : Int)) = false,
   AV.bytes b = AV.bytes b,
   SameO (some { t := (133 : Nat), sz := (6 : Nat), exact := true, fz := false, body := Body.rows [[AV.bytes b, AV.val (Value.int IntKind.i64 (bits BinOp.or IntKind.i64 (IntKind.wrap IntKind.i64 (IntKind.wrap IntKind.i64 (bits BinOp.and IntKind.u8 (↑(UInt8.toNat (List.getD b at_ (0 : UInt8))) : Int) (63 : Int)) * (256 : Int))) (IntKind.wrap IntKind.i64 (↑(UInt8.toNat (List.getD b (Int.toNat (IntKind.wrap IntKind.i64 ((↑at_ : Int) + (1 : Int)))) (0 : UInt8))) : Int)))), AV.val (Value.int IntKind.i64 nx), AV.val (Value.int IntKind.i64 (IntKind.wrap IntKind.i64 ((↑ld : Int) + (1 : Int)))), AV.val (Value.int IntKind.i64 (↑sz : Int)), AV.sl (1 : Nat) (0 : Nat) (List.length l) none]] }) { t := (133 : Nat), sz := (6 : Nat), exact := true, fz := false, body := Body.rows [[AV.bytes b, AV.val (Value.int IntKind.i64 (↑(leadTo b at_) : Int)), AV.val (Value.int IntKind.i64 nx), AV.val (Value.int IntKind.i64 (↑(ld + (1 : Nat)) : Int)), AV.val (Value.int IntKind.i64 (↑sz : Int)), AV.sl (1 : Nat) (0 : Nat) (List.length l) none]] },
   SameO (some { t := (9 : Nat), sz := (1 : Nat), exact := false, fz := false, body := Body.flat (rowsL l) }) { t := (9 : Nat), sz := (1 : Nat), exact := false, fz := false, body := Body.flat (List.map (fun x => (AV.brecOn_1.go x (AV.ren._f (renX 0 [(0 : Nat), (1 : Nat)] 108)) (renL._f (renX 0 [(0 : Nat), (1 : Nat)] 108))).1) (rowsL l)) }]) := by kernel_rfl

set_option maxRecDepth 100000 in
theorem gt_big1 (b : List UInt8) (at_ : Nat) (nx : Int) (ld : Nat) (sz : Nat) (l : List (List UInt8)) : stepXS noneKnown [(41, { op := [(4, 5, .get)], br := [(27, false), (39, false), (63, false), (68, true)], ob := [(4, 5)] })] Try.prog 41 2 (gtG1 b at_ nx ld sz l) (gtEB (4 : Int)) [] 0 [] =
   some (.ret,
   [decide ((↑at_ : Int) ≥ (↑(List.length b) : Int)) = false,
   (0 : Int) ≤ (↑at_ : Int) ∧ at_ < List.length b,
   (IntKind.wrap IntKind.i64 (↑(UInt8.toNat (List.getD b at_ (0 : UInt8))) : Int) == (0 : Int)) = false,
   decide (IntKind.wrap IntKind.i64 (↑(UInt8.toNat (List.getD b at_ (0 : UInt8))) : Int) ≥ (192 : Int)) = false,
   decide (IntKind.wrap IntKind.i64 (↑(UInt8.toNat (List.getD b at_ (0 : UInt8))) : Int) > (63 : Int)) = true,
   AV.val (Value.int IntKind.i64 (4 : Int)) = AV.val (Value.int IntKind.i64 (4 : Int))]) := by kernel_rfl

set_option maxRecDepth 100000 in
theorem gt_labshort1 (b : List UInt8) (at_ : Nat) (nx : Int) (ld : Nat) (sz : Nat) (l : List (List UInt8)) : stepXS noneKnown [(41, { op := [(4, 5, .get)], br := [(27, false), (39, false), (63, false), (68, false)], ob := [(4, 5), (6, 2)] }),
   (82, { br := [(17, true)] })] Try.prog 41 2 (gtG1 b at_ nx ld sz l) (gtEB (3 : Int)) [] 0 [] =
   some (.ret,
   [decide ((↑at_ : Int) ≥ (↑(List.length b) : Int)) = false,
   (0 : Int) ≤ (↑at_ : Int) ∧ at_ < List.length b,
   (IntKind.wrap IntKind.i64 (↑(UInt8.toNat (List.getD b at_ (0 : UInt8))) : Int) == (0 : Int)) = false,
   decide (IntKind.wrap IntKind.i64 (↑(UInt8.toNat (List.getD b at_ (0 : UInt8))) : Int) ≥ (192 : Int)) = false,
   decide (IntKind.wrap IntKind.i64 (↑(UInt8.toNat (List.getD b at_ (0 : UInt8))) : Int) > (63 : Int)) = false,
   decide (IntKind.wrap IntKind.i64 (↑(UInt8.toNat (List.getD b at_ (0 : UInt8))) : Int) > IntKind.wrap IntKind.i64 (IntKind.wrap IntKind.i64 ((↑(List.length b) : Int) - (↑at_ : Int)) - (1 : Int))) = true,
   AV.val (Value.int IntKind.i64 (3 : Int)) = AV.val (Value.int IntKind.i64 (3 : Int))]) := by kernel_rfl

set_option maxRecDepth 100000 in
theorem gt_labsize1 (b : List UInt8) (at_ : Nat) (nx : Int) (ld : Nat) (sz : Nat) (l : List (List UInt8)) : stepXS noneKnown [(41, { op := [(4, 5, .get)], br := [(27, false), (39, false), (63, false), (68, false)], ob := [(4, 5), (6, 2)] }),
   (82, { br := [(17, false), (68, true)], ob := [(3, 21), (3, 24)] })] Try.prog 41 2 (gtG1 b at_ nx ld sz l) (gtEB (4 : Int)) [] 0 [] =
   some (.ret,
   [decide ((↑at_ : Int) ≥ (↑(List.length b) : Int)) = false,
   (0 : Int) ≤ (↑at_ : Int) ∧ at_ < List.length b,
   (IntKind.wrap IntKind.i64 (↑(UInt8.toNat (List.getD b at_ (0 : UInt8))) : Int) == (0 : Int)) = false,
   decide (IntKind.wrap IntKind.i64 (↑(UInt8.toNat (List.getD b at_ (0 : UInt8))) : Int) ≥ (192 : Int)) = false,
   decide (IntKind.wrap IntKind.i64 (↑(UInt8.toNat (List.getD b at_ (0 : UInt8))) : Int) > (63 : Int)) = false,
   decide (IntKind.wrap IntKind.i64 (↑(UInt8.toNat (List.getD b at_ (0 : UInt8))) : Int) > IntKind.wrap IntKind.i64 (IntKind.wrap IntKind.i64 ((↑(List.length b) : Int) - (↑at_ : Int)) - (1 : Int))) = false,
   (0 : Int) ≤ IntKind.wrap IntKind.i64 ((↑at_ : Int) + (1 : Int)),
   (0 : Int) ≤ IntKind.wrap IntKind.i64 (IntKind.wrap IntKind.i64 ((↑at_ : Int) + (1 : Int)) + IntKind.wrap IntKind.i64 (↑(UInt8.toNat (List.getD b at_ (0 : UInt8))) : Int)),
   Int.toNat (IntKind.wrap IntKind.i64 ((↑at_ : Int) + (1 : Int))) ≤ Int.toNat (IntKind.wrap IntKind.i64 (IntKind.wrap IntKind.i64 ((↑at_ : Int) + (1 : Int)) + IntKind.wrap IntKind.i64 (↑(UInt8.toNat (List.getD b at_ (0 : UInt8))) : Int))) ∧ Int.toNat (IntKind.wrap IntKind.i64 (IntKind.wrap IntKind.i64 ((↑at_ : Int) + (1 : Int)) + IntKind.wrap IntKind.i64 (↑(UInt8.toNat (List.getD b at_ (0 : UInt8))) : Int))) ≤ List.length b,
   List.length (rowsL l) = List.length l,
   List.length l + (1 : Nat) ≤ (1000000000 : Nat),
   (List.length l + (1 : Nat)) * (16 : Nat) ≤ (140737488355328 : Nat),
   decide (IntKind.wrap IntKind.i64 (IntKind.wrap IntKind.i64 ((↑sz : Int) + IntKind.wrap IntKind.i64 ((1 : Int) + IntKind.wrap IntKind.i64 (↑(UInt8.toNat (List.getD b at_ (0 : UInt8))) : Int))) + (1 : Int)) > (255 : Int)) = true,
   AV.val (Value.int IntKind.i64 (4 : Int)) = AV.val (Value.int IntKind.i64 (4 : Int))]) := by kernel_rfl

set_option maxRecDepth 100000 in
theorem gt_lab1 (b : List UInt8) (at_ : Nat) (nx : Int) (ld : Nat) (sz : Nat) (l : List (List UInt8)) : stepXS noneKnown [(41, { op := [(4, 5, .get)], br := [(27, false), (39, false), (63, false), (68, false)], ob := [(4, 5), (6, 2)] }),
   (82, { br := [(17, false), (68, false)], ob := [(3, 21), (3, 24)] })] Try.prog 41 2 (gtG1 b at_ nx ld sz l) (gtG1 b (at_ + (1 : Nat) + UInt8.toNat (List.getD b at_ (0 : UInt8))) nx ld (sz + (1 : Nat) + UInt8.toNat (List.getD b at_ (0 : UInt8))) (l ++ [List.take (UInt8.toNat (List.getD b at_ (0 : UInt8))) (List.drop (at_ + (1 : Nat)) b)])) [(0 : Nat), (77 : Nat)] 0 [] =
   some (.normal,
   [decide ((↑at_ : Int) ≥ (↑(List.length b) : Int)) = false,
   (0 : Int) ≤ (↑at_ : Int) ∧ at_ < List.length b,
   (IntKind.wrap IntKind.i64 (↑(UInt8.toNat (List.getD b at_ (0 : UInt8))) : Int) == (0 : Int)) = false,
   decide (IntKind.wrap IntKind.i64 (↑(UInt8.toNat (List.getD b at_ (0 : UInt8))) : Int) ≥ (192 : Int)) = false,
   decide (IntKind.wrap IntKind.i64 (↑(UInt8.toNat (List.getD b at_ (0 : UInt8))) : Int) > (63 : Int)) = false,
   decide (IntKind.wrap IntKind.i64 (↑(UInt8.toNat (List.getD b at_ (0 : UInt8))) : Int) > IntKind.wrap IntKind.i64 (IntKind.wrap IntKind.i64 ((↑(List.length b) : Int) - (↑at_ : Int)) - (1 : Int))) = false,
   (0 : Int) ≤ IntKind.wrap IntKind.i64 ((↑at_ : Int) + (1 : Int)),
   (0 : Int) ≤ IntKind.wrap IntKind.i64 (IntKind.wrap IntKind.i64 ((↑at_ : Int) + (1 : Int)) + IntKind.wrap IntKind.i64 (↑(UInt8.toNat (List.getD b at_ (0 : UInt8))) : Int)),
   Int.toNat (IntKind.wrap IntKind.i64 ((↑at_ : Int) + (1 : Int))) ≤ Int.toNat (IntKind.wrap IntKind.i64 (IntKind.wrap IntKind.i64 ((↑at_ : Int) + (1 : Int)) + IntKind.wrap IntKind.i64 (↑(UInt8.toNat (List.getD b at_ (0 : UInt8))) : Int))) ∧ Int.toNat (IntKind.wrap IntKind.i64 (IntKind.wrap IntKind.i64 ((↑at_ : Int) + (1 : Int)) + IntKind.wrap IntKind.i64 (↑(UInt8.toNat (List.getD b at_ (0 : UInt8))) : Int))) ≤ List.length b,
   List.length (rowsL l) = List.length l,
   List.length l + (1 : Nat) ≤ (1000000000 : Nat),
   (List.length l + (1 : Nat)) * (16 : Nat) ≤ (140737488355328 : Nat),
   decide (IntKind.wrap IntKind.i64 (IntKind.wrap IntKind.i64 ((↑sz : Int) + IntKind.wrap IntKind.i64 ((1 : Int) + IntKind.wrap IntKind.i64 (↑(UInt8.toNat (List.getD b at_ (0 : UInt8))) : Int))) + (1 : Int)) > (255 : Int)) = false,
   AV.bytes b = AV.bytes b,
   SameO (some { t := (133 : Nat), sz := (6 : Nat), exact := true, fz := false, body := Body.rows [[AV.bytes b, AV.val (Value.int IntKind.i64 (IntKind.wrap IntKind.i64 ((↑at_ : Int) + IntKind.wrap IntKind.i64 ((1 : Int) + IntKind.wrap IntKind.i64 (↑(UInt8.toNat (List.getD b at_ (0 : UInt8))) : Int))))), AV.val (Value.int IntKind.i64 nx), AV.val (Value.int IntKind.i64 (↑ld : Int)), AV.val (Value.int IntKind.i64 (IntKind.wrap IntKind.i64 ((↑sz : Int) + IntKind.wrap IntKind.i64 ((1 : Int) + IntKind.wrap IntKind.i64 (↑(UInt8.toNat (List.getD b at_ (0 : UInt8))) : Int))))), AV.sl 77 (0 : Nat) (List.length l + (1 : Nat)) none]] }) { t := (133 : Nat), sz := (6 : Nat), exact := true, fz := false, body := Body.rows [[AV.bytes b, AV.val (Value.int IntKind.i64 (↑(at_ + (1 : Nat) + UInt8.toNat (List.getD b at_ (0 : UInt8))) : Int)), AV.val (Value.int IntKind.i64 nx), AV.val (Value.int IntKind.i64 (↑ld : Int)), AV.val (Value.int IntKind.i64 (↑(sz + (1 : Nat) + UInt8.toNat (List.getD b at_ (0 : UInt8))) : Int)), AV.sl (77 : Nat) (0 : Nat) (List.length (l ++ [List.take (UInt8.toNat (List.getD b at_ (0 : UInt8))) (List.drop (at_ + (1 : Nat)) b)])) none]] },
   SameO (some { t := (9 : Nat), sz := (1 : Nat), exact := false, fz := false, body := Body.flat (rowsL l ++ [[AV.val (Value.string { data := List.toArray (List.drop (Int.toNat (IntKind.wrap IntKind.i64 ((↑at_ : Int) + (1 : Int)))) (List.take (Int.toNat (IntKind.wrap IntKind.i64 (IntKind.wrap IntKind.i64 ((↑at_ : Int) + (1 : Int)) + IntKind.wrap IntKind.i64 (↑(UInt8.toNat (List.getD b at_ (0 : UInt8))) : Int)))) b)) })]]) }) { t := (9 : Nat), sz := (1 : Nat), exact := false, fz := false, body := Body.flat (List.map (fun x => (AV.brecOn_1.go x (AV.ren._f (renX 0 [(0 : Nat), (77 : Nat)] 110)) (renL._f (renX 0 [(0 : Nat), (77 : Nat)] 110))).1) (rowsL (l ++ [List.take (UInt8.toNat (List.getD b at_ (0 : UInt8))) (List.drop (at_ + (1 : Nat)) b)]))) }]) := by kernel_rfl

set_option maxRecDepth 100000 in
theorem gt_neg (b : List UInt8) (at_ : Int) : outXS noneKnown [(41, { op := [(2, 13, .br true)], gd := [(2, 6, true), (2, 7, true), (2, 8, true), (2, 9, true), (2, 10, true), (2, 11, true), (2, 12, true)] })] Try.prog 41 [AV.bytes b, AV.val (Value.int IntKind.i64 at_)] [] 0 [] [] =
   some (AV.tup [AV.val (Value.slice none (0 : Nat) (0 : Nat)), AV.val (Value.int IntKind.i64 (0 : Int)), AV.val (Value.int IntKind.i64 (3 : Int))], [], 25,
   [decide (at_ < (0 : Int)) = true,
   decide (at_ < (0 : Int)) = true,
   decide (at_ < (0 : Int)) = true,
   decide (at_ < (0 : Int)) = true,
   decide (at_ < (0 : Int)) = true,
   decide (at_ < (0 : Int)) = true,
   decide (at_ < (0 : Int)) = true,
   decide (at_ < (0 : Int)) = true]) := by kernel_rfl

set_option maxRecDepth 100000 in
theorem gt_bad (b : List UInt8) (at_ : Nat) (e : Int) : outXS noneKnown [] Try.prog 41 [AV.bytes b, AV.val (Value.int IntKind.i64 (↑at_ : Int))] [] 0 [] [(2, gtL b at_ (gtEB e))] =
   some (AV.tup [AV.val (Value.slice none (0 : Nat) (0 : Nat)), AV.val (Value.int IntKind.i64 (0 : Int)), AV.val (Value.int IntKind.i64 e)], [], 0,
   [AV.bytes b = AV.bytes b,
   SameO (some { t := (133 : Nat), sz := (6 : Nat), exact := true, fz := false, body := Body.rows [[AV.bytes b, AV.val (Value.int IntKind.i64 (↑at_ : Int)), AV.val (Value.int IntKind.i64 (-1 : Int)), AV.val (Value.int IntKind.i64 (0 : Int)), AV.val (Value.int IntKind.i64 (0 : Int)), AV.val (Value.slice none (0 : Nat) (0 : Nat))]] }) { t := (133 : Nat), sz := (6 : Nat), exact := true, fz := false, body := Body.rows [[AV.bytes b, AV.val (Value.int IntKind.i64 (↑at_ : Int)), AV.val (Value.int IntKind.i64 (-1 : Int)), AV.val (Value.int IntKind.i64 (0 : Int)), AV.val (Value.int IntKind.i64 (0 : Int)), AV.val (Value.slice none (0 : Nat) (0 : Nat))]] },
   EvXL Try.prog 0 (loopAt Try.prog 41 2) (GoalX.st (LoopX.G (gtL b at_ (gtEB e))) 0) (LoopX.ex (gtL b at_ (gtEB e))) (GoalX.st (LoopX.E (gtL b at_ (gtEB e))) 0)]) := by kernel_rfl

set_option maxRecDepth 100000 in
theorem gt_nil (b : List UInt8) (at_ : Nat) (n : Int) : outXS noneKnown [] Try.prog 41 [AV.bytes b, AV.val (Value.int IntKind.i64 (↑at_ : Int))] [] 0 [] [(2, gtL b at_ (gtE0 n))] =
   some (AV.tup [AV.val (Value.slice none (0 : Nat) (0 : Nat)), AV.val (Value.int IntKind.i64 n), AV.val (Value.int IntKind.i64 (0 : Int))], [], 0,
   [AV.bytes b = AV.bytes b,
   SameO (some { t := (133 : Nat), sz := (6 : Nat), exact := true, fz := false, body := Body.rows [[AV.bytes b, AV.val (Value.int IntKind.i64 (↑at_ : Int)), AV.val (Value.int IntKind.i64 (-1 : Int)), AV.val (Value.int IntKind.i64 (0 : Int)), AV.val (Value.int IntKind.i64 (0 : Int)), AV.val (Value.slice none (0 : Nat) (0 : Nat))]] }) { t := (133 : Nat), sz := (6 : Nat), exact := true, fz := false, body := Body.rows [[AV.bytes b, AV.val (Value.int IntKind.i64 (↑at_ : Int)), AV.val (Value.int IntKind.i64 (-1 : Int)), AV.val (Value.int IntKind.i64 (0 : Int)), AV.val (Value.int IntKind.i64 (0 : Int)), AV.val (Value.slice none (0 : Nat) (0 : Nat))]] },
   EvXL Try.prog 0 (loopAt Try.prog 41 2) (GoalX.st (LoopX.G (gtL b at_ (gtE0 n))) 0) (LoopX.ex (gtL b at_ (gtE0 n))) (GoalX.st (LoopX.E (gtL b at_ (gtE0 n))) 0)]) := by kernel_rfl

set_option maxRecDepth 100000 in
theorem gt_ok (b : List UInt8) (at_ : Nat) (l : List (List UInt8)) (n : Int) : outXS noneKnown [] Try.prog 41 [AV.bytes b, AV.val (Value.int IntKind.i64 (↑at_ : Int))] [] 0 [(0 : Nat)] [(2, gtL b at_ (gtE1 l n))] =
   some (AV.tup [AV.sl (0 : Nat) (0 : Nat) (List.length l) none, AV.val (Value.int IntKind.i64 n), AV.val (Value.int IntKind.i64 (0 : Int))], [(0, { t := (9 : Nat), sz := (1 : Nat), exact := false, fz := false, body := Body.flat (rowsL l) })], 1,
   [AV.bytes b = AV.bytes b,
   SameO (some { t := (133 : Nat), sz := (6 : Nat), exact := true, fz := false, body := Body.rows [[AV.bytes b, AV.val (Value.int IntKind.i64 (↑at_ : Int)), AV.val (Value.int IntKind.i64 (-1 : Int)), AV.val (Value.int IntKind.i64 (0 : Int)), AV.val (Value.int IntKind.i64 (0 : Int)), AV.val (Value.slice none (0 : Nat) (0 : Nat))]] }) { t := (133 : Nat), sz := (6 : Nat), exact := true, fz := false, body := Body.rows [[AV.bytes b, AV.val (Value.int IntKind.i64 (↑at_ : Int)), AV.val (Value.int IntKind.i64 (-1 : Int)), AV.val (Value.int IntKind.i64 (0 : Int)), AV.val (Value.int IntKind.i64 (0 : Int)), AV.val (Value.slice none (0 : Nat) (0 : Nat))]] },
   EvXL Try.prog 0 (loopAt Try.prog 41 2) (GoalX.st (LoopX.G (gtL b at_ (gtE1 l n))) 0) (LoopX.ex (gtL b at_ (gtE1 l n))) (GoalX.st (LoopX.E (gtL b at_ (gtE1 l n))) 0)]) := by kernel_rfl
end Go.Proofs.Ytmilcpejchjleaa

/- A name that is read: what is yielded. -/
namespace Go.Proofs.Ytmilcpejchjleaa
open Go.RowKit
set_option linter.unusedSimpArgs false
set_option linter.unusedVariables false

theorem and63 : ∀ n : Nat, n < 256 → 192 ≤ n → bits BinOp.and IntKind.u8 (n : Int) (63 : Int) = ((n - 192 : Nat) : Int) := by
  have h : ∀ n : Nat, n < 256 → (decide (192 ≤ n → bits BinOp.and IntKind.u8 (n : Int) (63 : Int) = ((n - 192 : Nat) : Int))) = true := by decide +kernel
  intro n hn
  exact of_decide_eq_true (h n hn)
theorem or8 (k d : Nat) (hk : k < 64) (hd : d < 256) : bits BinOp.or IntKind.i64 ((k * 256 : Nat) : Int) (d : Int) = ((k * 256 + d : Nat) : Int) := by
  have e : k * 256 ||| d = k * 256 + d := by
    have := Nat.shiftLeft_add_eq_or_of_lt (i := 8) (b := d) (by omega) k
    rw [Nat.shiftLeft_eq] at this
    exact this.symm
  have e1 : Int.toNat (((k * 256 : Nat) : Int) % 18446744073709551616) = k * 256 := by omega
  have e2 : Int.toNat ((d : Int) % 18446744073709551616) = d := by omega
  have h : bits BinOp.or IntKind.i64 ((k * 256 : Nat) : Int) (d : Int) = IntKind.wrap IntKind.i64 ((Int.toNat (((k * 256 : Nat) : Int) % 18446744073709551616) ||| Int.toNat ((d : Int) % 18446744073709551616) : Nat) : Int) := rfl
  rw [h, e1, e2, e, w64 _ (by omega)]
theorem led1 (b : List UInt8) (at_ : Nat) (h : 192 ≤ (b.getD at_ 0).toNat) : bits BinOp.or IntKind.i64 (IntKind.wrap IntKind.i64 (IntKind.wrap IntKind.i64 (bits BinOp.and IntKind.u8 (((b.getD at_ 0).toNat : Nat) : Int) (63 : Int)) * (256 : Int))) (((b.getD (at_ + 1) 0).toNat : Nat) : Int) = ((leadTo b at_ : Nat) : Int) := by
  have h1 := (b.getD at_ 0).toNat_lt
  have h2 := (b.getD (at_ + 1) 0).toNat_lt
  rw [and63 _ (by omega) h, w64 (((b.getD at_ 0).toNat - 192 : Nat) : Int) (by omega), w64 _ (by omega)]
  have e : (((b.getD at_ 0).toNat - 192 : Nat) : Int) * 256 = (((b.getD at_ 0).toNat - 192) * 256 : Nat) := by omega
  rw [e, or8 _ _ (by omega) (by omega)]
  rfl
theorem led2 (b : List UInt8) (at_ : Nat) (h : 192 ≤ (b.getD at_ 0).toNat) : bits BinOp.or IntKind.i64 (IntKind.wrap IntKind.i64 (IntKind.wrap IntKind.i64 ((((b.getD at_ 0).toNat : Nat) : Int) - (192 : Int)) * (256 : Int))) (((b.getD (at_ + 1) 0).toNat : Nat) : Int) = ((leadTo b at_ : Nat) : Int) := by
  have h1 := (b.getD at_ 0).toNat_lt
  have h2 := (b.getD (at_ + 1) 0).toNat_lt
  have e0 : IntKind.wrap IntKind.i64 ((((b.getD at_ 0).toNat : Nat) : Int) - (192 : Int)) = (((b.getD at_ 0).toNat - 192 : Nat) : Int) := by rw [w64 _ (by omega)]; omega
  rw [e0, w64 _ (by omega)]
  have e : (((b.getD at_ 0).toNat - 192 : Nat) : Int) * 256 = (((b.getD at_ 0).toNat - 192) * 256 : Nat) := by omega
  rw [e, or8 _ _ (by omega) (by omega)]
  rfl
theorem led_lt (b : List UInt8) (at_ : Nat) : leadTo b at_ < 16384 ∨ (b.getD at_ 0).toNat ≥ 256 := by
  have h1 := (b.getD at_ 0).toNat_lt
  have h2 := (b.getD (at_ + 1) 0).toNat_lt
  unfold leadTo
  omega
theorem dropTake (b : List UInt8) (i c : Nat) : List.drop i (List.take (i + c) b) = List.take c (List.drop i b) := by
  rw [List.drop_take, Nat.add_sub_cancel_left]

theorem gt_r_short0 (b : List UInt8) (at_ : Nat) (nx : Int) (ld sz : Nat) (hb : b.length ≤ 1000000000) (hld : ld ≤ 64) (hsz : sz ≤ 254) (h1 : b.length ≤ at_) : EvX Try.prog 0 (loopAt Try.prog 41 2) ((gtG b at_ nx ld sz).st 0) .ret ((gtEB 3).st 0) := by
  have hc := (b.getD at_ 0).toNat_lt
  have hd := (b.getD (at_ + 1) 0).toNat_lt
  refine stepXS_ok noneKnown_ok (gt_short0 b at_ nx ld sz) ?_
  skip
  repeat' (first | exact allNil | refine allCons ?_ ?_ | (with_reducible refine allRp _ ?_ ?_))
  all_goals first | (with_reducible rfl) | exact True.intro | exact decide_eq_true (by omega) | exact decide_eq_false (by omega) | omega | exact beq_eq_false_iff_ne.2 (by omega) | exact beq_iff_eq.2 (by omega) | exact same_flat (fun _ => rfl) rfl | exact same_flat (fun _ => rfl) (by simp [rowsL, sStr]) | (simp [rowsL]; done) | (simp [SameO]; done) | (simp; done) | (simp; omega)
theorem gt_r_enda0 (b : List UInt8) (at_ : Nat) (nx : Int) (ld sz : Nat) (hb : b.length ≤ 1000000000) (hld : ld ≤ 64) (hsz : sz ≤ 254) (h1 : at_ < b.length) (h2 : (b.getD at_ 0).toNat = 0) (h3 : nx < 0) : EvX Try.prog 0 (loopAt Try.prog 41 2) ((gtG b at_ nx ld sz).st 0) .ret ((gtE0 ((at_ + 1 : Nat))).st 0) := by
  have hc := (b.getD at_ 0).toNat_lt
  have hd := (b.getD (at_ + 1) 0).toNat_lt
  refine stepXS_ok noneKnown_ok (gt_enda0 b at_ nx ld sz) ?_
  simp only [wNat (z := ((((b.getD at_ 0).toNat : Nat) : Int))) ((b.getD at_ 0).toNat) (by omega) (by omega), wNat (z := ((at_ : Int) + (1 : Int))) (at_ + 1) (by omega) (by omega), wNat (z := (((b.getD (at_ + 1) 0).toNat : Nat) : Int)) ((b.getD (at_ + 1) 0).toNat) (by omega) (by omega), Int.toNat_natCast, wNat (z := ((ld : Int) + (1 : Int))) (ld + 1) (by omega) (by omega), wNat (z := ((at_ : Int) + (2 : Int))) (at_ + 2) (by omega) (by omega)]
  repeat' (first | exact allNil | refine allCons ?_ ?_ | (with_reducible refine allRp _ ?_ ?_))
  all_goals first | (with_reducible rfl) | exact True.intro | exact decide_eq_true (by omega) | exact decide_eq_false (by omega) | omega | exact beq_eq_false_iff_ne.2 (by omega) | exact beq_iff_eq.2 (by omega) | exact same_flat (fun _ => rfl) rfl | exact same_flat (fun _ => rfl) (by simp [rowsL, sStr]) | (simp [rowsL]; done) | (simp [SameO]; done) | (simp; done) | (simp; omega)
theorem gt_r_endb0 (b : List UInt8) (at_ : Nat) (nx : Int) (ld sz : Nat) (hb : b.length ≤ 1000000000) (hld : ld ≤ 64) (hsz : sz ≤ 254) (h1 : at_ < b.length) (h2 : (b.getD at_ 0).toNat = 0) (h3 : ¬ nx < 0) : EvX Try.prog 0 (loopAt Try.prog 41 2) ((gtG b at_ nx ld sz).st 0) .ret ((gtE0 (nx)).st 0) := by
  have hc := (b.getD at_ 0).toNat_lt
  have hd := (b.getD (at_ + 1) 0).toNat_lt
  refine stepXS_ok noneKnown_ok (gt_endb0 b at_ nx ld sz) ?_
  simp only [wNat (z := ((((b.getD at_ 0).toNat : Nat) : Int))) ((b.getD at_ 0).toNat) (by omega) (by omega), wNat (z := ((at_ : Int) + (1 : Int))) (at_ + 1) (by omega) (by omega), wNat (z := (((b.getD (at_ + 1) 0).toNat : Nat) : Int)) ((b.getD (at_ + 1) 0).toNat) (by omega) (by omega), Int.toNat_natCast, wNat (z := ((ld : Int) + (1 : Int))) (ld + 1) (by omega) (by omega), wNat (z := ((at_ : Int) + (2 : Int))) (at_ + 2) (by omega) (by omega)]
  repeat' (first | exact allNil | refine allCons ?_ ?_ | (with_reducible refine allRp _ ?_ ?_))
  all_goals first | (with_reducible rfl) | exact True.intro | exact decide_eq_true (by omega) | exact decide_eq_false (by omega) | omega | exact beq_eq_false_iff_ne.2 (by omega) | exact beq_iff_eq.2 (by omega) | exact same_flat (fun _ => rfl) rfl | exact same_flat (fun _ => rfl) (by simp [rowsL, sStr]) | (simp [rowsL]; done) | (simp [SameO]; done) | (simp; done) | (simp; omega)
theorem gt_r_ldshort0 (b : List UInt8) (at_ : Nat) (nx : Int) (ld sz : Nat) (hb : b.length ≤ 1000000000) (hld : ld ≤ 64) (hsz : sz ≤ 254) (h1 : at_ < b.length) (h2 : 192 ≤ (b.getD at_ 0).toNat) (h3 : b.length ≤ at_ + 1) : EvX Try.prog 0 (loopAt Try.prog 41 2) ((gtG b at_ nx ld sz).st 0) .ret ((gtEB 3).st 0) := by
  have hc := (b.getD at_ 0).toNat_lt
  have hd := (b.getD (at_ + 1) 0).toNat_lt
  refine stepXS_ok noneKnown_ok (gt_ldshort0 b at_ nx ld sz) ?_
  simp only [wNat (z := ((((b.getD at_ 0).toNat : Nat) : Int))) ((b.getD at_ 0).toNat) (by omega) (by omega), wNat (z := ((at_ : Int) + (1 : Int))) (at_ + 1) (by omega) (by omega), wNat (z := (((b.getD (at_ + 1) 0).toNat : Nat) : Int)) ((b.getD (at_ + 1) 0).toNat) (by omega) (by omega), Int.toNat_natCast, wNat (z := ((ld : Int) + (1 : Int))) (ld + 1) (by omega) (by omega), wNat (z := ((at_ : Int) + (2 : Int))) (at_ + 2) (by omega) (by omega)]
  repeat' (first | exact allNil | refine allCons ?_ ?_ | (with_reducible refine allRp _ ?_ ?_))
  all_goals first | (with_reducible rfl) | exact True.intro | exact decide_eq_true (by omega) | exact decide_eq_false (by omega) | omega | exact beq_eq_false_iff_ne.2 (by omega) | exact beq_iff_eq.2 (by omega) | exact same_flat (fun _ => rfl) rfl | exact same_flat (fun _ => rfl) (by simp [rowsL, sStr]) | (simp [rowsL]; done) | (simp [SameO]; done) | (simp; done) | (simp; omega)
theorem gt_r_ldto0 (b : List UInt8) (at_ : Nat) (nx : Int) (ld sz : Nat) (hb : b.length ≤ 1000000000) (hld : ld ≤ 64) (hsz : sz ≤ 254) (h1 : at_ + 1 < b.length) (h2 : 192 ≤ (b.getD at_ 0).toNat) (h3 : at_ ≤ leadTo b at_) : EvX Try.prog 0 (loopAt Try.prog 41 2) ((gtG b at_ nx ld sz).st 0) .ret ((gtEB 4).st 0) := by
  have hc := (b.getD at_ 0).toNat_lt
  have hd := (b.getD (at_ + 1) 0).toNat_lt
  refine stepXS_ok noneKnown_ok (gt_ldto0 b at_ nx ld sz) ?_
  simp only [wNat (z := ((((b.getD at_ 0).toNat : Nat) : Int))) ((b.getD at_ 0).toNat) (by omega) (by omega), wNat (z := ((at_ : Int) + (1 : Int))) (at_ + 1) (by omega) (by omega), wNat (z := (((b.getD (at_ + 1) 0).toNat : Nat) : Int)) ((b.getD (at_ + 1) 0).toNat) (by omega) (by omega), Int.toNat_natCast, wNat (z := ((ld : Int) + (1 : Int))) (ld + 1) (by omega) (by omega), wNat (z := ((at_ : Int) + (2 : Int))) (at_ + 2) (by omega) (by omega), led1 b at_ h2]
  repeat' (first | exact allNil | refine allCons ?_ ?_ | (with_reducible refine allRp _ ?_ ?_))
  all_goals first | (with_reducible rfl) | exact True.intro | exact decide_eq_true (by omega) | exact decide_eq_false (by omega) | omega | exact beq_eq_false_iff_ne.2 (by omega) | exact beq_iff_eq.2 (by omega) | exact same_flat (fun _ => rfl) rfl | exact same_flat (fun _ => rfl) (by simp [rowsL, sStr]) | (simp [rowsL]; done) | (simp [SameO]; done) | (simp; done) | (simp; omega)
theorem gt_r_ldmany0 (b : List UInt8) (at_ : Nat) (nx : Int) (ld sz : Nat) (hb : b.length ≤ 1000000000) (hld : ld ≤ 64) (hsz : sz ≤ 254) (h1 : at_ + 1 < b.length) (h2 : 192 ≤ (b.getD at_ 0).toNat) (h3 : leadTo b at_ < at_) (h4 : 64 ≤ ld) : EvX Try.prog 0 (loopAt Try.prog 41 2) ((gtG b at_ nx ld sz).st 0) .ret ((gtEB 4).st 0) := by
  have hc := (b.getD at_ 0).toNat_lt
  have hd := (b.getD (at_ + 1) 0).toNat_lt
  refine stepXS_ok noneKnown_ok (gt_ldmany0 b at_ nx ld sz) ?_
  simp only [wNat (z := ((((b.getD at_ 0).toNat : Nat) : Int))) ((b.getD at_ 0).toNat) (by omega) (by omega), wNat (z := ((at_ : Int) + (1 : Int))) (at_ + 1) (by omega) (by omega), wNat (z := (((b.getD (at_ + 1) 0).toNat : Nat) : Int)) ((b.getD (at_ + 1) 0).toNat) (by omega) (by omega), Int.toNat_natCast, wNat (z := ((ld : Int) + (1 : Int))) (ld + 1) (by omega) (by omega), wNat (z := ((at_ : Int) + (2 : Int))) (at_ + 2) (by omega) (by omega), led1 b at_ h2]
  repeat' (first | exact allNil | refine allCons ?_ ?_ | (with_reducible refine allRp _ ?_ ?_))
  all_goals first | (with_reducible rfl) | exact True.intro | exact decide_eq_true (by omega) | exact decide_eq_false (by omega) | omega | exact beq_eq_false_iff_ne.2 (by omega) | exact beq_iff_eq.2 (by omega) | exact same_flat (fun _ => rfl) rfl | exact same_flat (fun _ => rfl) (by simp [rowsL, sStr]) | (simp [rowsL]; done) | (simp [SameO]; done) | (simp; done) | (simp; omega)
theorem gt_r_lda0 (b : List UInt8) (at_ : Nat) (nx : Int) (ld sz : Nat) (hb : b.length ≤ 1000000000) (hld : ld ≤ 64) (hsz : sz ≤ 254) (h1 : at_ + 1 < b.length) (h2 : 192 ≤ (b.getD at_ 0).toNat) (h3 : leadTo b at_ < at_) (h4 : ld < 64) (h5 : nx < 0) : EvX Try.prog 0 (loopAt Try.prog 41 2) ((gtG b at_ nx ld sz).st 0) .normal ((gtG b (leadTo b at_) ((at_ + 2 : Nat)) (ld + 1) (sz)).st 0) := by
  have hc := (b.getD at_ 0).toNat_lt
  have hd := (b.getD (at_ + 1) 0).toNat_lt
  refine stepXS_ok noneKnown_ok (gt_lda0 b at_ nx ld sz) ?_
  simp only [wNat (z := ((((b.getD at_ 0).toNat : Nat) : Int))) ((b.getD at_ 0).toNat) (by omega) (by omega), wNat (z := ((at_ : Int) + (1 : Int))) (at_ + 1) (by omega) (by omega), wNat (z := (((b.getD (at_ + 1) 0).toNat : Nat) : Int)) ((b.getD (at_ + 1) 0).toNat) (by omega) (by omega), Int.toNat_natCast, wNat (z := ((ld : Int) + (1 : Int))) (ld + 1) (by omega) (by omega), wNat (z := ((at_ : Int) + (2 : Int))) (at_ + 2) (by omega) (by omega), led1 b at_ h2]
  repeat' (first | exact allNil | refine allCons ?_ ?_ | (with_reducible refine allRp _ ?_ ?_))
  all_goals first | (with_reducible rfl) | exact True.intro | exact decide_eq_true (by omega) | exact decide_eq_false (by omega) | omega | exact beq_eq_false_iff_ne.2 (by omega) | exact beq_iff_eq.2 (by omega) | exact same_flat (fun _ => rfl) rfl | exact same_flat (fun _ => rfl) (by simp [rowsL, sStr]) | (simp [rowsL]; done) | (simp [SameO]; done) | (simp; done) | (simp; omega)
theorem gt_r_ldb0 (b : List UInt8) (at_ : Nat) (nx : Int) (ld sz : Nat) (hb : b.length ≤ 1000000000) (hld : ld ≤ 64) (hsz : sz ≤ 254) (h1 : at_ + 1 < b.length) (h2 : 192 ≤ (b.getD at_ 0).toNat) (h3 : leadTo b at_ < at_) (h4 : ld < 64) (h5 : ¬ nx < 0) : EvX Try.prog 0 (loopAt Try.prog 41 2) ((gtG b at_ nx ld sz).st 0) .normal ((gtG b (leadTo b at_) (nx) (ld + 1) (sz)).st 0) := by
  have hc := (b.getD at_ 0).toNat_lt
  have hd := (b.getD (at_ + 1) 0).toNat_lt
  refine stepXS_ok noneKnown_ok (gt_ldb0 b at_ nx ld sz) ?_
  simp only [wNat (z := ((((b.getD at_ 0).toNat : Nat) : Int))) ((b.getD at_ 0).toNat) (by omega) (by omega), wNat (z := ((at_ : Int) + (1 : Int))) (at_ + 1) (by omega) (by omega), wNat (z := (((b.getD (at_ + 1) 0).toNat : Nat) : Int)) ((b.getD (at_ + 1) 0).toNat) (by omega) (by omega), Int.toNat_natCast, wNat (z := ((ld : Int) + (1 : Int))) (ld + 1) (by omega) (by omega), wNat (z := ((at_ : Int) + (2 : Int))) (at_ + 2) (by omega) (by omega), led1 b at_ h2]
  repeat' (first | exact allNil | refine allCons ?_ ?_ | (with_reducible refine allRp _ ?_ ?_))
  all_goals first | (with_reducible rfl) | exact True.intro | exact decide_eq_true (by omega) | exact decide_eq_false (by omega) | omega | exact beq_eq_false_iff_ne.2 (by omega) | exact beq_iff_eq.2 (by omega) | exact same_flat (fun _ => rfl) rfl | exact same_flat (fun _ => rfl) (by simp [rowsL, sStr]) | (simp [rowsL]; done) | (simp [SameO]; done) | (simp; done) | (simp; omega)
theorem gt_r_big0 (b : List UInt8) (at_ : Nat) (nx : Int) (ld sz : Nat) (hb : b.length ≤ 1000000000) (hld : ld ≤ 64) (hsz : sz ≤ 254) (h1 : at_ < b.length) (h2 : (b.getD at_ 0).toNat < 192) (h3 : 64 ≤ (b.getD at_ 0).toNat) : EvX Try.prog 0 (loopAt Try.prog 41 2) ((gtG b at_ nx ld sz).st 0) .ret ((gtEB 4).st 0) := by
  have hc := (b.getD at_ 0).toNat_lt
  have hd := (b.getD (at_ + 1) 0).toNat_lt
  refine stepXS_ok noneKnown_ok (gt_big0 b at_ nx ld sz) ?_
  simp only [wNat (z := ((((b.getD at_ 0).toNat : Nat) : Int))) ((b.getD at_ 0).toNat) (by omega) (by omega), wNat (z := ((at_ : Int) + (1 : Int))) (at_ + 1) (by omega) (by omega), wNat (z := (((b.getD (at_ + 1) 0).toNat : Nat) : Int)) ((b.getD (at_ + 1) 0).toNat) (by omega) (by omega), Int.toNat_natCast, wNat (z := ((ld : Int) + (1 : Int))) (ld + 1) (by omega) (by omega), wNat (z := ((at_ : Int) + (2 : Int))) (at_ + 2) (by omega) (by omega)]
  repeat' (first | exact allNil | refine allCons ?_ ?_ | (with_reducible refine allRp _ ?_ ?_))
  all_goals first | (with_reducible rfl) | exact True.intro | exact decide_eq_true (by omega) | exact decide_eq_false (by omega) | omega | exact beq_eq_false_iff_ne.2 (by omega) | exact beq_iff_eq.2 (by omega) | exact same_flat (fun _ => rfl) rfl | exact same_flat (fun _ => rfl) (by simp [rowsL, sStr]) | (simp [rowsL]; done) | (simp [SameO]; done) | (simp; done) | (simp; omega)
theorem gt_r_labshort0 (b : List UInt8) (at_ : Nat) (nx : Int) (ld sz : Nat) (hb : b.length ≤ 1000000000) (hld : ld ≤ 64) (hsz : sz ≤ 254) (h1 : at_ < b.length) (h2 : (b.getD at_ 0).toNat ≠ 0) (h3 : (b.getD at_ 0).toNat < 64) (h4 : b.length < at_ + 1 + (b.getD at_ 0).toNat) : EvX Try.prog 0 (loopAt Try.prog 41 2) ((gtG b at_ nx ld sz).st 0) .ret ((gtEB 3).st 0) := by
  have hc := (b.getD at_ 0).toNat_lt
  have hd := (b.getD (at_ + 1) 0).toNat_lt
  refine stepXS_ok noneKnown_ok (gt_labshort0 b at_ nx ld sz) ?_
  simp only [wNat (z := ((((b.getD at_ 0).toNat : Nat) : Int))) ((b.getD at_ 0).toNat) (by omega) (by omega), wNat (z := ((at_ : Int) + (1 : Int))) (at_ + 1) (by omega) (by omega), wNat (z := (((b.getD (at_ + 1) 0).toNat : Nat) : Int)) ((b.getD (at_ + 1) 0).toNat) (by omega) (by omega), Int.toNat_natCast, wNat (z := ((ld : Int) + (1 : Int))) (ld + 1) (by omega) (by omega), wNat (z := ((at_ : Int) + (2 : Int))) (at_ + 2) (by omega) (by omega), wNat (z := ((b.length : Int) - (at_ : Int))) (b.length - at_) (by omega) (by omega), wNat (z := (((b.length - at_ : Nat) : Int) - (1 : Int))) (b.length - at_ - 1) (by omega) (by omega), wNat (z := ((1 : Int) + ((((b.getD at_ 0).toNat : Nat) : Int)))) (1 + (b.getD at_ 0).toNat) (by omega) (by omega), wNat (z := ((at_ : Int) + ((1 + (b.getD at_ 0).toNat : Nat) : Int))) (at_ + 1 + (b.getD at_ 0).toNat) (by omega) (by omega), wNat (z := (((at_ + 1 : Nat) : Int) + ((((b.getD at_ 0).toNat : Nat) : Int)))) (at_ + 1 + (b.getD at_ 0).toNat) (by omega) (by omega), wNat (z := ((sz : Int) + ((1 + (b.getD at_ 0).toNat : Nat) : Int))) (sz + 1 + (b.getD at_ 0).toNat) (by omega) (by omega), wNat (z := (((sz + 1 + (b.getD at_ 0).toNat : Nat) : Int) + (1 : Int))) (sz + 1 + (b.getD at_ 0).toNat + 1) (by omega) (by omega), wNat (z := (((sz + 1 : Nat) : Int) + (1 : Int))) (sz + 1 + 1) (by omega) (by omega), wNat (z := (((sz + 1 + 1 : Nat) : Int) + ((((b.getD at_ 0).toNat : Nat) : Int)))) (sz + 1 + (b.getD at_ 0).toNat + 1) (by omega) (by omega), dropTake b (at_ + 1) (b.getD at_ 0).toNat]
  repeat' (first | exact allNil | refine allCons ?_ ?_ | (with_reducible refine allRp _ ?_ ?_))
  all_goals first | (with_reducible rfl) | exact True.intro | exact decide_eq_true (by omega) | exact decide_eq_false (by omega) | omega | exact beq_eq_false_iff_ne.2 (by omega) | exact beq_iff_eq.2 (by omega) | exact same_flat (fun _ => rfl) rfl | exact same_flat (fun _ => rfl) (by simp [rowsL, sStr]) | (simp [rowsL]; done) | (simp [SameO]; done) | (simp; done) | (simp; omega)
theorem gt_r_labsize0 (b : List UInt8) (at_ : Nat) (nx : Int) (ld sz : Nat) (hb : b.length ≤ 1000000000) (hld : ld ≤ 64) (hsz : sz ≤ 254) (h1 : at_ + 1 + (b.getD at_ 0).toNat ≤ b.length) (h2 : (b.getD at_ 0).toNat ≠ 0) (h3 : (b.getD at_ 0).toNat < 64) (h4 : 253 < sz + (b.getD at_ 0).toNat) : EvX Try.prog 0 (loopAt Try.prog 41 2) ((gtG b at_ nx ld sz).st 0) .ret ((gtEB 4).st 0) := by
  have hc := (b.getD at_ 0).toNat_lt
  have hd := (b.getD (at_ + 1) 0).toNat_lt
  refine stepXS_ok noneKnown_ok (gt_labsize0 b at_ nx ld sz) ?_
  simp only [wNat (z := ((((b.getD at_ 0).toNat : Nat) : Int))) ((b.getD at_ 0).toNat) (by omega) (by omega), wNat (z := ((at_ : Int) + (1 : Int))) (at_ + 1) (by omega) (by omega), wNat (z := (((b.getD (at_ + 1) 0).toNat : Nat) : Int)) ((b.getD (at_ + 1) 0).toNat) (by omega) (by omega), Int.toNat_natCast, wNat (z := ((ld : Int) + (1 : Int))) (ld + 1) (by omega) (by omega), wNat (z := ((at_ : Int) + (2 : Int))) (at_ + 2) (by omega) (by omega), wNat (z := ((b.length : Int) - (at_ : Int))) (b.length - at_) (by omega) (by omega), wNat (z := (((b.length - at_ : Nat) : Int) - (1 : Int))) (b.length - at_ - 1) (by omega) (by omega), wNat (z := ((1 : Int) + ((((b.getD at_ 0).toNat : Nat) : Int)))) (1 + (b.getD at_ 0).toNat) (by omega) (by omega), wNat (z := ((at_ : Int) + ((1 + (b.getD at_ 0).toNat : Nat) : Int))) (at_ + 1 + (b.getD at_ 0).toNat) (by omega) (by omega), wNat (z := (((at_ + 1 : Nat) : Int) + ((((b.getD at_ 0).toNat : Nat) : Int)))) (at_ + 1 + (b.getD at_ 0).toNat) (by omega) (by omega), wNat (z := ((sz : Int) + ((1 + (b.getD at_ 0).toNat : Nat) : Int))) (sz + 1 + (b.getD at_ 0).toNat) (by omega) (by omega), wNat (z := (((sz + 1 + (b.getD at_ 0).toNat : Nat) : Int) + (1 : Int))) (sz + 1 + (b.getD at_ 0).toNat + 1) (by omega) (by omega), wNat (z := (((sz + 1 : Nat) : Int) + (1 : Int))) (sz + 1 + 1) (by omega) (by omega), wNat (z := (((sz + 1 + 1 : Nat) : Int) + ((((b.getD at_ 0).toNat : Nat) : Int)))) (sz + 1 + (b.getD at_ 0).toNat + 1) (by omega) (by omega), dropTake b (at_ + 1) (b.getD at_ 0).toNat]
  repeat' (first | exact allNil | refine allCons ?_ ?_ | (with_reducible refine allRp _ ?_ ?_))
  all_goals first | (with_reducible rfl) | exact True.intro | exact decide_eq_true (by omega) | exact decide_eq_false (by omega) | omega | exact beq_eq_false_iff_ne.2 (by omega) | exact beq_iff_eq.2 (by omega) | exact same_flat (fun _ => rfl) rfl | exact same_flat (fun _ => rfl) (by simp [rowsL, sStr]) | (simp [rowsL]; done) | (simp [SameO]; done) | (simp; done) | (simp; omega)
theorem gt_r_lab0 (b : List UInt8) (at_ : Nat) (nx : Int) (ld sz : Nat) (hb : b.length ≤ 1000000000) (hld : ld ≤ 64) (hsz : sz ≤ 254) (h1 : at_ + 1 + (b.getD at_ 0).toNat ≤ b.length) (h2 : (b.getD at_ 0).toNat ≠ 0) (h3 : (b.getD at_ 0).toNat < 64) (h4 : sz + (b.getD at_ 0).toNat ≤ 253) : EvX Try.prog 0 (loopAt Try.prog 41 2) ((gtG b at_ nx ld sz).st 0) .normal ((gtG1r b (at_ + 1 + (b.getD at_ 0).toNat) nx ld (sz + 1 + (b.getD at_ 0).toNat) [(b.drop (at_ + 1)).take (b.getD at_ 0).toNat]).st 0) := by
  have hc := (b.getD at_ 0).toNat_lt
  have hd := (b.getD (at_ + 1) 0).toNat_lt
  refine stepXS_ok noneKnown_ok (gt_lab0 b at_ nx ld sz) ?_
  simp only [wNat (z := ((((b.getD at_ 0).toNat : Nat) : Int))) ((b.getD at_ 0).toNat) (by omega) (by omega), wNat (z := ((at_ : Int) + (1 : Int))) (at_ + 1) (by omega) (by omega), wNat (z := (((b.getD (at_ + 1) 0).toNat : Nat) : Int)) ((b.getD (at_ + 1) 0).toNat) (by omega) (by omega), Int.toNat_natCast, wNat (z := ((ld : Int) + (1 : Int))) (ld + 1) (by omega) (by omega), wNat (z := ((at_ : Int) + (2 : Int))) (at_ + 2) (by omega) (by omega), wNat (z := ((b.length : Int) - (at_ : Int))) (b.length - at_) (by omega) (by omega), wNat (z := (((b.length - at_ : Nat) : Int) - (1 : Int))) (b.length - at_ - 1) (by omega) (by omega), wNat (z := ((1 : Int) + ((((b.getD at_ 0).toNat : Nat) : Int)))) (1 + (b.getD at_ 0).toNat) (by omega) (by omega), wNat (z := ((at_ : Int) + ((1 + (b.getD at_ 0).toNat : Nat) : Int))) (at_ + 1 + (b.getD at_ 0).toNat) (by omega) (by omega), wNat (z := (((at_ + 1 : Nat) : Int) + ((((b.getD at_ 0).toNat : Nat) : Int)))) (at_ + 1 + (b.getD at_ 0).toNat) (by omega) (by omega), wNat (z := ((sz : Int) + ((1 + (b.getD at_ 0).toNat : Nat) : Int))) (sz + 1 + (b.getD at_ 0).toNat) (by omega) (by omega), wNat (z := (((sz + 1 + (b.getD at_ 0).toNat : Nat) : Int) + (1 : Int))) (sz + 1 + (b.getD at_ 0).toNat + 1) (by omega) (by omega), wNat (z := (((sz + 1 : Nat) : Int) + (1 : Int))) (sz + 1 + 1) (by omega) (by omega), wNat (z := (((sz + 1 + 1 : Nat) : Int) + ((((b.getD at_ 0).toNat : Nat) : Int)))) (sz + 1 + (b.getD at_ 0).toNat + 1) (by omega) (by omega), dropTake b (at_ + 1) (b.getD at_ 0).toNat]
  repeat' (first | exact allNil | refine allCons ?_ ?_ | (with_reducible refine allRp _ ?_ ?_))
  all_goals first | (with_reducible rfl) | exact True.intro | exact decide_eq_true (by omega) | exact decide_eq_false (by omega) | omega | exact beq_eq_false_iff_ne.2 (by omega) | exact beq_iff_eq.2 (by omega) | exact same_flat (fun _ => rfl) rfl | exact same_flat (fun _ => rfl) (by simp [rowsL, sStr]) | (simp [rowsL]; done) | (simp [SameO]; done) | (simp; done) | (simp; omega)
theorem gt_r_short1 (b : List UInt8) (at_ : Nat) (nx : Int) (ld sz : Nat) (l : List (List UInt8)) (hb : b.length ≤ 1000000000) (hld : ld ≤ 64) (hsz : sz ≤ 254) (hll : l.length ≤ 254) (h1 : b.length ≤ at_) : EvX Try.prog 0 (loopAt Try.prog 41 2) ((gtG1 b at_ nx ld sz l).st 0) .ret ((gtEB 3).st 0) := by
  have hc := (b.getD at_ 0).toNat_lt
  have hd := (b.getD (at_ + 1) 0).toNat_lt
  refine stepXS_ok noneKnown_ok (gt_short1 b at_ nx ld sz l) ?_
  skip
  repeat' (first | exact allNil | refine allCons ?_ ?_ | (with_reducible refine allRp _ ?_ ?_))
  all_goals first | (with_reducible rfl) | exact True.intro | exact decide_eq_true (by omega) | exact decide_eq_false (by omega) | omega | exact beq_eq_false_iff_ne.2 (by omega) | exact beq_iff_eq.2 (by omega) | exact same_flat (fun _ => rfl) rfl | exact same_flat (fun _ => rfl) (by simp [rowsL, sStr]) | (simp [rowsL]; done) | (simp [SameO]; done) | (simp; done) | (simp; omega)
theorem gt_r_enda1 (b : List UInt8) (at_ : Nat) (nx : Int) (ld sz : Nat) (l : List (List UInt8)) (hb : b.length ≤ 1000000000) (hld : ld ≤ 64) (hsz : sz ≤ 254) (hll : l.length ≤ 254) (h1 : at_ < b.length) (h2 : (b.getD at_ 0).toNat = 0) (h3 : nx < 0) : EvX Try.prog 0 (loopAt Try.prog 41 2) ((gtG1 b at_ nx ld sz l).st 0) .ret ((gtE1 l ((at_ + 1 : Nat))).st 0) := by
  have hc := (b.getD at_ 0).toNat_lt
  have hd := (b.getD (at_ + 1) 0).toNat_lt
  refine stepXS_ok noneKnown_ok (gt_enda1 b at_ nx ld sz l) ?_
  simp only [wNat (z := ((((b.getD at_ 0).toNat : Nat) : Int))) ((b.getD at_ 0).toNat) (by omega) (by omega), wNat (z := ((at_ : Int) + (1 : Int))) (at_ + 1) (by omega) (by omega), wNat (z := (((b.getD (at_ + 1) 0).toNat : Nat) : Int)) ((b.getD (at_ + 1) 0).toNat) (by omega) (by omega), Int.toNat_natCast, wNat (z := ((ld : Int) + (1 : Int))) (ld + 1) (by omega) (by omega), wNat (z := ((at_ : Int) + (2 : Int))) (at_ + 2) (by omega) (by omega)]
  repeat' (first | exact allNil | refine allCons ?_ ?_ | (with_reducible refine allRp _ ?_ ?_))
  all_goals first | (with_reducible rfl) | exact True.intro | exact decide_eq_true (by omega) | exact decide_eq_false (by omega) | omega | exact beq_eq_false_iff_ne.2 (by omega) | exact beq_iff_eq.2 (by omega) | exact same_flat (fun _ => rfl) rfl | exact same_flat (fun _ => rfl) (by simp [rowsL, sStr]) | (simp [rowsL]; done) | (simp [SameO]; done) | (simp; done) | (simp; omega)
theorem gt_r_endb1 (b : List UInt8) (at_ : Nat) (nx : Int) (ld sz : Nat) (l : List (List UInt8)) (hb : b.length ≤ 1000000000) (hld : ld ≤ 64) (hsz : sz ≤ 254) (hll : l.length ≤ 254) (h1 : at_ < b.length) (h2 : (b.getD at_ 0).toNat = 0) (h3 : ¬ nx < 0) : EvX Try.prog 0 (loopAt Try.prog 41 2) ((gtG1 b at_ nx ld sz l).st 0) .ret ((gtE1 l (nx)).st 0) := by
  have hc := (b.getD at_ 0).toNat_lt
  have hd := (b.getD (at_ + 1) 0).toNat_lt
  refine stepXS_ok noneKnown_ok (gt_endb1 b at_ nx ld sz l) ?_
  simp only [wNat (z := ((((b.getD at_ 0).toNat : Nat) : Int))) ((b.getD at_ 0).toNat) (by omega) (by omega), wNat (z := ((at_ : Int) + (1 : Int))) (at_ + 1) (by omega) (by omega), wNat (z := (((b.getD (at_ + 1) 0).toNat : Nat) : Int)) ((b.getD (at_ + 1) 0).toNat) (by omega) (by omega), Int.toNat_natCast, wNat (z := ((ld : Int) + (1 : Int))) (ld + 1) (by omega) (by omega), wNat (z := ((at_ : Int) + (2 : Int))) (at_ + 2) (by omega) (by omega)]
  repeat' (first | exact allNil | refine allCons ?_ ?_ | (with_reducible refine allRp _ ?_ ?_))
  all_goals first | (with_reducible rfl) | exact True.intro | exact decide_eq_true (by omega) | exact decide_eq_false (by omega) | omega | exact beq_eq_false_iff_ne.2 (by omega) | exact beq_iff_eq.2 (by omega) | exact same_flat (fun _ => rfl) rfl | exact same_flat (fun _ => rfl) (by simp [rowsL, sStr]) | (simp [rowsL]; done) | (simp [SameO]; done) | (simp; done) | (simp; omega)
theorem gt_r_ldshort1 (b : List UInt8) (at_ : Nat) (nx : Int) (ld sz : Nat) (l : List (List UInt8)) (hb : b.length ≤ 1000000000) (hld : ld ≤ 64) (hsz : sz ≤ 254) (hll : l.length ≤ 254) (h1 : at_ < b.length) (h2 : 192 ≤ (b.getD at_ 0).toNat) (h3 : b.length ≤ at_ + 1) : EvX Try.prog 0 (loopAt Try.prog 41 2) ((gtG1 b at_ nx ld sz l).st 0) .ret ((gtEB 3).st 0) := by
  have hc := (b.getD at_ 0).toNat_lt
  have hd := (b.getD (at_ + 1) 0).toNat_lt
  refine stepXS_ok noneKnown_ok (gt_ldshort1 b at_ nx ld sz l) ?_
  simp only [wNat (z := ((((b.getD at_ 0).toNat : Nat) : Int))) ((b.getD at_ 0).toNat) (by omega) (by omega), wNat (z := ((at_ : Int) + (1 : Int))) (at_ + 1) (by omega) (by omega), wNat (z := (((b.getD (at_ + 1) 0).toNat : Nat) : Int)) ((b.getD (at_ + 1) 0).toNat) (by omega) (by omega), Int.toNat_natCast, wNat (z := ((ld : Int) + (1 : Int))) (ld + 1) (by omega) (by omega), wNat (z := ((at_ : Int) + (2 : Int))) (at_ + 2) (by omega) (by omega)]
  repeat' (first | exact allNil | refine allCons ?_ ?_ | (with_reducible refine allRp _ ?_ ?_))
  all_goals first | (with_reducible rfl) | exact True.intro | exact decide_eq_true (by omega) | exact decide_eq_false (by omega) | omega | exact beq_eq_false_iff_ne.2 (by omega) | exact beq_iff_eq.2 (by omega) | exact same_flat (fun _ => rfl) rfl | exact same_flat (fun _ => rfl) (by simp [rowsL, sStr]) | (simp [rowsL]; done) | (simp [SameO]; done) | (simp; done) | (simp; omega)
theorem gt_r_ldto1 (b : List UInt8) (at_ : Nat) (nx : Int) (ld sz : Nat) (l : List (List UInt8)) (hb : b.length ≤ 1000000000) (hld : ld ≤ 64) (hsz : sz ≤ 254) (hll : l.length ≤ 254) (h1 : at_ + 1 < b.length) (h2 : 192 ≤ (b.getD at_ 0).toNat) (h3 : at_ ≤ leadTo b at_) : EvX Try.prog 0 (loopAt Try.prog 41 2) ((gtG1 b at_ nx ld sz l).st 0) .ret ((gtEB 4).st 0) := by
  have hc := (b.getD at_ 0).toNat_lt
  have hd := (b.getD (at_ + 1) 0).toNat_lt
  refine stepXS_ok noneKnown_ok (gt_ldto1 b at_ nx ld sz l) ?_
  simp only [wNat (z := ((((b.getD at_ 0).toNat : Nat) : Int))) ((b.getD at_ 0).toNat) (by omega) (by omega), wNat (z := ((at_ : Int) + (1 : Int))) (at_ + 1) (by omega) (by omega), wNat (z := (((b.getD (at_ + 1) 0).toNat : Nat) : Int)) ((b.getD (at_ + 1) 0).toNat) (by omega) (by omega), Int.toNat_natCast, wNat (z := ((ld : Int) + (1 : Int))) (ld + 1) (by omega) (by omega), wNat (z := ((at_ : Int) + (2 : Int))) (at_ + 2) (by omega) (by omega), led1 b at_ h2]
  repeat' (first | exact allNil | refine allCons ?_ ?_ | (with_reducible refine allRp _ ?_ ?_))
  all_goals first | (with_reducible rfl) | exact True.intro | exact decide_eq_true (by omega) | exact decide_eq_false (by omega) | omega | exact beq_eq_false_iff_ne.2 (by omega) | exact beq_iff_eq.2 (by omega) | exact same_flat (fun _ => rfl) rfl | exact same_flat (fun _ => rfl) (by simp [rowsL, sStr]) | (simp [rowsL]; done) | (simp [SameO]; done) | (simp; done) | (simp; omega)
theorem gt_r_ldmany1 (b : List UInt8) (at_ : Nat) (nx : Int) (ld sz : Nat) (l : List (List UInt8)) (hb : b.length ≤ 1000000000) (hld : ld ≤ 64) (hsz : sz ≤ 254) (hll : l.length ≤ 254) (h1 : at_ + 1 < b.length) (h2 : 192 ≤ (b.getD at_ 0).toNat) (h3 : leadTo b at_ < at_) (h4 : 64 ≤ ld) : EvX Try.prog 0 (loopAt Try.prog 41 2) ((gtG1 b at_ nx ld sz l).st 0) .ret ((gtEB 4).st 0) := by
  have hc := (b.getD at_ 0).toNat_lt
  have hd := (b.getD (at_ + 1) 0).toNat_lt
  refine stepXS_ok noneKnown_ok (gt_ldmany1 b at_ nx ld sz l) ?_
  simp only [wNat (z := ((((b.getD at_ 0).toNat : Nat) : Int))) ((b.getD at_ 0).toNat) (by omega) (by omega), wNat (z := ((at_ : Int) + (1 : Int))) (at_ + 1) (by omega) (by omega), wNat (z := (((b.getD (at_ + 1) 0).toNat : Nat) : Int)) ((b.getD (at_ + 1) 0).toNat) (by omega) (by omega), Int.toNat_natCast, wNat (z := ((ld : Int) + (1 : Int))) (ld + 1) (by omega) (by omega), wNat (z := ((at_ : Int) + (2 : Int))) (at_ + 2) (by omega) (by omega), led1 b at_ h2]
  repeat' (first | exact allNil | refine allCons ?_ ?_ | (with_reducible refine allRp _ ?_ ?_))
  all_goals first | (with_reducible rfl) | exact True.intro | exact decide_eq_true (by omega) | exact decide_eq_false (by omega) | omega | exact beq_eq_false_iff_ne.2 (by omega) | exact beq_iff_eq.2 (by omega) | exact same_flat (fun _ => rfl) rfl | exact same_flat (fun _ => rfl) (by simp [rowsL, sStr]) | (simp [rowsL]; done) | (simp [SameO]; done) | (simp; done) | (simp; omega)
theorem gt_r_lda1 (b : List UInt8) (at_ : Nat) (nx : Int) (ld sz : Nat) (l : List (List UInt8)) (hb : b.length ≤ 1000000000) (hld : ld ≤ 64) (hsz : sz ≤ 254) (hll : l.length ≤ 254) (h1 : at_ + 1 < b.length) (h2 : 192 ≤ (b.getD at_ 0).toNat) (h3 : leadTo b at_ < at_) (h4 : ld < 64) (h5 : nx < 0) : EvX Try.prog 0 (loopAt Try.prog 41 2) ((gtG1 b at_ nx ld sz l).st 0) .normal ((gtG1 b (leadTo b at_) ((at_ + 2 : Nat)) (ld + 1) (sz) l).st 0) := by
  have hc := (b.getD at_ 0).toNat_lt
  have hd := (b.getD (at_ + 1) 0).toNat_lt
  refine stepXS_ok noneKnown_ok (gt_lda1 b at_ nx ld sz l) ?_
  simp only [wNat (z := ((((b.getD at_ 0).toNat : Nat) : Int))) ((b.getD at_ 0).toNat) (by omega) (by omega), wNat (z := ((at_ : Int) + (1 : Int))) (at_ + 1) (by omega) (by omega), wNat (z := (((b.getD (at_ + 1) 0).toNat : Nat) : Int)) ((b.getD (at_ + 1) 0).toNat) (by omega) (by omega), Int.toNat_natCast, wNat (z := ((ld : Int) + (1 : Int))) (ld + 1) (by omega) (by omega), wNat (z := ((at_ : Int) + (2 : Int))) (at_ + 2) (by omega) (by omega), led1 b at_ h2]
  repeat' (first | exact allNil | refine allCons ?_ ?_ | (with_reducible refine allRp _ ?_ ?_))
  all_goals first | (with_reducible rfl) | exact True.intro | exact decide_eq_true (by omega) | exact decide_eq_false (by omega) | omega | exact beq_eq_false_iff_ne.2 (by omega) | exact beq_iff_eq.2 (by omega) | exact same_flat (fun _ => rfl) rfl | exact same_flat (fun _ => rfl) (by simp [rowsL, sStr]) | (simp [rowsL]; done) | (simp [SameO]; done) | (simp; done) | (simp; omega)
theorem gt_r_ldb1 (b : List UInt8) (at_ : Nat) (nx : Int) (ld sz : Nat) (l : List (List UInt8)) (hb : b.length ≤ 1000000000) (hld : ld ≤ 64) (hsz : sz ≤ 254) (hll : l.length ≤ 254) (h1 : at_ + 1 < b.length) (h2 : 192 ≤ (b.getD at_ 0).toNat) (h3 : leadTo b at_ < at_) (h4 : ld < 64) (h5 : ¬ nx < 0) : EvX Try.prog 0 (loopAt Try.prog 41 2) ((gtG1 b at_ nx ld sz l).st 0) .normal ((gtG1 b (leadTo b at_) (nx) (ld + 1) (sz) l).st 0) := by
  have hc := (b.getD at_ 0).toNat_lt
  have hd := (b.getD (at_ + 1) 0).toNat_lt
  refine stepXS_ok noneKnown_ok (gt_ldb1 b at_ nx ld sz l) ?_
  simp only [wNat (z := ((((b.getD at_ 0).toNat : Nat) : Int))) ((b.getD at_ 0).toNat) (by omega) (by omega), wNat (z := ((at_ : Int) + (1 : Int))) (at_ + 1) (by omega) (by omega), wNat (z := (((b.getD (at_ + 1) 0).toNat : Nat) : Int)) ((b.getD (at_ + 1) 0).toNat) (by omega) (by omega), Int.toNat_natCast, wNat (z := ((ld : Int) + (1 : Int))) (ld + 1) (by omega) (by omega), wNat (z := ((at_ : Int) + (2 : Int))) (at_ + 2) (by omega) (by omega), led1 b at_ h2]
  repeat' (first | exact allNil | refine allCons ?_ ?_ | (with_reducible refine allRp _ ?_ ?_))
  all_goals first | (with_reducible rfl) | exact True.intro | exact decide_eq_true (by omega) | exact decide_eq_false (by omega) | omega | exact beq_eq_false_iff_ne.2 (by omega) | exact beq_iff_eq.2 (by omega) | exact same_flat (fun _ => rfl) rfl | exact same_flat (fun _ => rfl) (by simp [rowsL, sStr]) | (simp [rowsL]; done) | (simp [SameO]; done) | (simp; done) | (simp; omega)
theorem gt_r_big1 (b : List UInt8) (at_ : Nat) (nx : Int) (ld sz : Nat) (l : List (List UInt8)) (hb : b.length ≤ 1000000000) (hld : ld ≤ 64) (hsz : sz ≤ 254) (hll : l.length ≤ 254) (h1 : at_ < b.length) (h2 : (b.getD at_ 0).toNat < 192) (h3 : 64 ≤ (b.getD at_ 0).toNat) : EvX Try.prog 0 (loopAt Try.prog 41 2) ((gtG1 b at_ nx ld sz l).st 0) .ret ((gtEB 4).st 0) := by
  have hc := (b.getD at_ 0).toNat_lt
  have hd := (b.getD (at_ + 1) 0).toNat_lt
  refine stepXS_ok noneKnown_ok (gt_big1 b at_ nx ld sz l) ?_
  simp only [wNat (z := ((((b.getD at_ 0).toNat : Nat) : Int))) ((b.getD at_ 0).toNat) (by omega) (by omega), wNat (z := ((at_ : Int) + (1 : Int))) (at_ + 1) (by omega) (by omega), wNat (z := (((b.getD (at_ + 1) 0).toNat : Nat) : Int)) ((b.getD (at_ + 1) 0).toNat) (by omega) (by omega), Int.toNat_natCast, wNat (z := ((ld : Int) + (1 : Int))) (ld + 1) (by omega) (by omega), wNat (z := ((at_ : Int) + (2 : Int))) (at_ + 2) (by omega) (by omega)]
  repeat' (first | exact allNil | refine allCons ?_ ?_ | (with_reducible refine allRp _ ?_ ?_))
  all_goals first | (with_reducible rfl) | exact True.intro | exact decide_eq_true (by omega) | exact decide_eq_false (by omega) | omega | exact beq_eq_false_iff_ne.2 (by omega) | exact beq_iff_eq.2 (by omega) | exact same_flat (fun _ => rfl) rfl | exact same_flat (fun _ => rfl) (by simp [rowsL, sStr]) | (simp [rowsL]; done) | (simp [SameO]; done) | (simp; done) | (simp; omega)
theorem gt_r_labshort1 (b : List UInt8) (at_ : Nat) (nx : Int) (ld sz : Nat) (l : List (List UInt8)) (hb : b.length ≤ 1000000000) (hld : ld ≤ 64) (hsz : sz ≤ 254) (hll : l.length ≤ 254) (h1 : at_ < b.length) (h2 : (b.getD at_ 0).toNat ≠ 0) (h3 : (b.getD at_ 0).toNat < 64) (h4 : b.length < at_ + 1 + (b.getD at_ 0).toNat) : EvX Try.prog 0 (loopAt Try.prog 41 2) ((gtG1 b at_ nx ld sz l).st 0) .ret ((gtEB 3).st 0) := by
  have hc := (b.getD at_ 0).toNat_lt
  have hd := (b.getD (at_ + 1) 0).toNat_lt
  refine stepXS_ok noneKnown_ok (gt_labshort1 b at_ nx ld sz l) ?_
  simp only [wNat (z := ((((b.getD at_ 0).toNat : Nat) : Int))) ((b.getD at_ 0).toNat) (by omega) (by omega), wNat (z := ((at_ : Int) + (1 : Int))) (at_ + 1) (by omega) (by omega), wNat (z := (((b.getD (at_ + 1) 0).toNat : Nat) : Int)) ((b.getD (at_ + 1) 0).toNat) (by omega) (by omega), Int.toNat_natCast, wNat (z := ((ld : Int) + (1 : Int))) (ld + 1) (by omega) (by omega), wNat (z := ((at_ : Int) + (2 : Int))) (at_ + 2) (by omega) (by omega), wNat (z := ((b.length : Int) - (at_ : Int))) (b.length - at_) (by omega) (by omega), wNat (z := (((b.length - at_ : Nat) : Int) - (1 : Int))) (b.length - at_ - 1) (by omega) (by omega), wNat (z := ((1 : Int) + ((((b.getD at_ 0).toNat : Nat) : Int)))) (1 + (b.getD at_ 0).toNat) (by omega) (by omega), wNat (z := ((at_ : Int) + ((1 + (b.getD at_ 0).toNat : Nat) : Int))) (at_ + 1 + (b.getD at_ 0).toNat) (by omega) (by omega), wNat (z := (((at_ + 1 : Nat) : Int) + ((((b.getD at_ 0).toNat : Nat) : Int)))) (at_ + 1 + (b.getD at_ 0).toNat) (by omega) (by omega), wNat (z := ((sz : Int) + ((1 + (b.getD at_ 0).toNat : Nat) : Int))) (sz + 1 + (b.getD at_ 0).toNat) (by omega) (by omega), wNat (z := (((sz + 1 + (b.getD at_ 0).toNat : Nat) : Int) + (1 : Int))) (sz + 1 + (b.getD at_ 0).toNat + 1) (by omega) (by omega), wNat (z := (((sz + 1 : Nat) : Int) + (1 : Int))) (sz + 1 + 1) (by omega) (by omega), wNat (z := (((sz + 1 + 1 : Nat) : Int) + ((((b.getD at_ 0).toNat : Nat) : Int)))) (sz + 1 + (b.getD at_ 0).toNat + 1) (by omega) (by omega), dropTake b (at_ + 1) (b.getD at_ 0).toNat]
  repeat' (first | exact allNil | refine allCons ?_ ?_ | (with_reducible refine allRp _ ?_ ?_))
  all_goals first | (with_reducible rfl) | exact True.intro | exact decide_eq_true (by omega) | exact decide_eq_false (by omega) | omega | exact beq_eq_false_iff_ne.2 (by omega) | exact beq_iff_eq.2 (by omega) | exact same_flat (fun _ => rfl) rfl | exact same_flat (fun _ => rfl) (by simp [rowsL, sStr]) | (simp [rowsL]; done) | (simp [SameO]; done) | (simp; done) | (simp; omega)
theorem gt_r_labsize1 (b : List UInt8) (at_ : Nat) (nx : Int) (ld sz : Nat) (l : List (List UInt8)) (hb : b.length ≤ 1000000000) (hld : ld ≤ 64) (hsz : sz ≤ 254) (hll : l.length ≤ 254) (h1 : at_ + 1 + (b.getD at_ 0).toNat ≤ b.length) (h2 : (b.getD at_ 0).toNat ≠ 0) (h3 : (b.getD at_ 0).toNat < 64) (h4 : 253 < sz + (b.getD at_ 0).toNat) : EvX Try.prog 0 (loopAt Try.prog 41 2) ((gtG1 b at_ nx ld sz l).st 0) .ret ((gtEB 4).st 0) := by
  have hc := (b.getD at_ 0).toNat_lt
  have hd := (b.getD (at_ + 1) 0).toNat_lt
  refine stepXS_ok noneKnown_ok (gt_labsize1 b at_ nx ld sz l) ?_
  simp only [wNat (z := ((((b.getD at_ 0).toNat : Nat) : Int))) ((b.getD at_ 0).toNat) (by omega) (by omega), wNat (z := ((at_ : Int) + (1 : Int))) (at_ + 1) (by omega) (by omega), wNat (z := (((b.getD (at_ + 1) 0).toNat : Nat) : Int)) ((b.getD (at_ + 1) 0).toNat) (by omega) (by omega), Int.toNat_natCast, wNat (z := ((ld : Int) + (1 : Int))) (ld + 1) (by omega) (by omega), wNat (z := ((at_ : Int) + (2 : Int))) (at_ + 2) (by omega) (by omega), wNat (z := ((b.length : Int) - (at_ : Int))) (b.length - at_) (by omega) (by omega), wNat (z := (((b.length - at_ : Nat) : Int) - (1 : Int))) (b.length - at_ - 1) (by omega) (by omega), wNat (z := ((1 : Int) + ((((b.getD at_ 0).toNat : Nat) : Int)))) (1 + (b.getD at_ 0).toNat) (by omega) (by omega), wNat (z := ((at_ : Int) + ((1 + (b.getD at_ 0).toNat : Nat) : Int))) (at_ + 1 + (b.getD at_ 0).toNat) (by omega) (by omega), wNat (z := (((at_ + 1 : Nat) : Int) + ((((b.getD at_ 0).toNat : Nat) : Int)))) (at_ + 1 + (b.getD at_ 0).toNat) (by omega) (by omega), wNat (z := ((sz : Int) + ((1 + (b.getD at_ 0).toNat : Nat) : Int))) (sz + 1 + (b.getD at_ 0).toNat) (by omega) (by omega), wNat (z := (((sz + 1 + (b.getD at_ 0).toNat : Nat) : Int) + (1 : Int))) (sz + 1 + (b.getD at_ 0).toNat + 1) (by omega) (by omega), wNat (z := (((sz + 1 : Nat) : Int) + (1 : Int))) (sz + 1 + 1) (by omega) (by omega), wNat (z := (((sz + 1 + 1 : Nat) : Int) + ((((b.getD at_ 0).toNat : Nat) : Int)))) (sz + 1 + (b.getD at_ 0).toNat + 1) (by omega) (by omega), dropTake b (at_ + 1) (b.getD at_ 0).toNat]
  repeat' (first | exact allNil | refine allCons ?_ ?_ | (with_reducible refine allRp _ ?_ ?_))
  all_goals first | (with_reducible rfl) | exact True.intro | exact decide_eq_true (by omega) | exact decide_eq_false (by omega) | omega | exact beq_eq_false_iff_ne.2 (by omega) | exact beq_iff_eq.2 (by omega) | exact same_flat (fun _ => rfl) rfl | exact same_flat (fun _ => rfl) (by simp [rowsL, sStr]) | (simp [rowsL]; done) | (simp [SameO]; done) | (simp; done) | (simp; omega)
theorem gt_r_lab1 (b : List UInt8) (at_ : Nat) (nx : Int) (ld sz : Nat) (l : List (List UInt8)) (hb : b.length ≤ 1000000000) (hld : ld ≤ 64) (hsz : sz ≤ 254) (hll : l.length ≤ 254) (h1 : at_ + 1 + (b.getD at_ 0).toNat ≤ b.length) (h2 : (b.getD at_ 0).toNat ≠ 0) (h3 : (b.getD at_ 0).toNat < 64) (h4 : sz + (b.getD at_ 0).toNat ≤ 253) : EvX Try.prog 0 (loopAt Try.prog 41 2) ((gtG1 b at_ nx ld sz l).st 0) .normal ((gtG1 b (at_ + 1 + (b.getD at_ 0).toNat) nx ld (sz + 1 + (b.getD at_ 0).toNat) (l ++ [(b.drop (at_ + 1)).take (b.getD at_ 0).toNat])).st 0) := by
  have hc := (b.getD at_ 0).toNat_lt
  have hd := (b.getD (at_ + 1) 0).toNat_lt
  refine stepXS_ok noneKnown_ok (gt_lab1 b at_ nx ld sz l) ?_
  simp only [wNat (z := ((((b.getD at_ 0).toNat : Nat) : Int))) ((b.getD at_ 0).toNat) (by omega) (by omega), wNat (z := ((at_ : Int) + (1 : Int))) (at_ + 1) (by omega) (by omega), wNat (z := (((b.getD (at_ + 1) 0).toNat : Nat) : Int)) ((b.getD (at_ + 1) 0).toNat) (by omega) (by omega), Int.toNat_natCast, wNat (z := ((ld : Int) + (1 : Int))) (ld + 1) (by omega) (by omega), wNat (z := ((at_ : Int) + (2 : Int))) (at_ + 2) (by omega) (by omega), wNat (z := ((b.length : Int) - (at_ : Int))) (b.length - at_) (by omega) (by omega), wNat (z := (((b.length - at_ : Nat) : Int) - (1 : Int))) (b.length - at_ - 1) (by omega) (by omega), wNat (z := ((1 : Int) + ((((b.getD at_ 0).toNat : Nat) : Int)))) (1 + (b.getD at_ 0).toNat) (by omega) (by omega), wNat (z := ((at_ : Int) + ((1 + (b.getD at_ 0).toNat : Nat) : Int))) (at_ + 1 + (b.getD at_ 0).toNat) (by omega) (by omega), wNat (z := (((at_ + 1 : Nat) : Int) + ((((b.getD at_ 0).toNat : Nat) : Int)))) (at_ + 1 + (b.getD at_ 0).toNat) (by omega) (by omega), wNat (z := ((sz : Int) + ((1 + (b.getD at_ 0).toNat : Nat) : Int))) (sz + 1 + (b.getD at_ 0).toNat) (by omega) (by omega), wNat (z := (((sz + 1 + (b.getD at_ 0).toNat : Nat) : Int) + (1 : Int))) (sz + 1 + (b.getD at_ 0).toNat + 1) (by omega) (by omega), wNat (z := (((sz + 1 : Nat) : Int) + (1 : Int))) (sz + 1 + 1) (by omega) (by omega), wNat (z := (((sz + 1 + 1 : Nat) : Int) + ((((b.getD at_ 0).toNat : Nat) : Int)))) (sz + 1 + (b.getD at_ 0).toNat + 1) (by omega) (by omega), dropTake b (at_ + 1) (b.getD at_ 0).toNat]
  repeat' (first | exact allNil | refine allCons ?_ ?_ | (with_reducible refine allRp _ ?_ ?_))
  all_goals first | (with_reducible rfl) | exact True.intro | exact decide_eq_true (by omega) | exact decide_eq_false (by omega) | omega | exact beq_eq_false_iff_ne.2 (by omega) | exact beq_iff_eq.2 (by omega) | exact same_flat (fun _ => rfl) rfl | exact same_flat (fun _ => rfl) (by simp [rowsL, sStr]) | (simp [rowsL]; done) | (simp [SameO]; done) | (simp; done) | (simp; omega)

def gtS (b : List UInt8) (at_ : Nat) (nx : Int) (ld sz : Nat) (l : List (List UInt8)) : GoalX := if l = [] then gtG b at_ nx ld sz else gtG1 b at_ nx ld sz l
def gtO (r : List (List UInt8) × Int × Int) : GoalX := if r.2.2 ≠ 0 then gtEB r.2.2 else if r.1 = [] then gtE0 r.2.1 else gtE1 r.1 r.2.1

theorem gt_loop (b : List UInt8) (hb : b.length ≤ 1000000000) : ∀ (k at_ : Nat) (nx : Int) (ld sz : Nat) (l : List (List UInt8)), (64 - ld) + (255 - sz) < k → ld ≤ 64 → sz ≤ 254 → l.length ≤ sz →
    EvXL Try.prog 0 (loopAt Try.prog 41 2) ((gtS b at_ nx ld sz l).st 0) .ret ((gtO (getF b k at_ nx ld sz l)).st 0)
  | 0, _, _, _, _, _, hk, _, _, _ => by omega
  | k + 1, at_, nx, ld, sz, l, hk, hld, hsz, hll => by
    have hc := (b.getD at_ 0).toNat_lt
    rw [getF]
    by_cases h1 : b.length ≤ at_
    · rw [if_pos h1]
      by_cases hl : l = []
      · subst hl
        exact EvXL.last (gt_r_short0 b at_ nx ld sz hb hld hsz h1) (by simp)
      · rw [gtS, if_neg hl]
        exact EvXL.last (gt_r_short1 b at_ nx ld sz l hb hld hsz (by omega) h1) (by simp)
    rw [if_neg h1]
    by_cases h2 : (b.getD at_ 0).toNat = 0
    · rw [if_pos h2]
      by_cases hl : l = []
      · subst hl
        by_cases hn : nx < 0
        · have e : gtO (([] : List (List UInt8)), nextP nx (at_ + 1), 0) = gtE0 ((at_ + 1 : Nat) : Int) := by simp [gtO, nextP, hn]
          rw [e]
          exact EvXL.last (gt_r_enda0 b at_ nx ld sz hb hld hsz (by omega) h2 hn) (by simp)
        · have e : gtO (([] : List (List UInt8)), nextP nx (at_ + 1), 0) = gtE0 nx := by simp [gtO, nextP, hn]
          rw [e]
          exact EvXL.last (gt_r_endb0 b at_ nx ld sz hb hld hsz (by omega) h2 hn) (by simp)
      · rw [gtS, if_neg hl]
        by_cases hn : nx < 0
        · have e : gtO (l, nextP nx (at_ + 1), 0) = gtE1 l ((at_ + 1 : Nat) : Int) := by simp [gtO, nextP, hn, hl]
          rw [e]
          exact EvXL.last (gt_r_enda1 b at_ nx ld sz l hb hld hsz (by omega) (by omega) h2 hn) (by simp)
        · have e : gtO (l, nextP nx (at_ + 1), 0) = gtE1 l nx := by simp [gtO, nextP, hn, hl]
          rw [e]
          exact EvXL.last (gt_r_endb1 b at_ nx ld sz l hb hld hsz (by omega) (by omega) h2 hn) (by simp)
    rw [if_neg h2]
    by_cases h3 : 192 ≤ (b.getD at_ 0).toNat
    · rw [if_pos h3]
      by_cases h4 : b.length ≤ at_ + 1
      · rw [if_pos h4]
        by_cases hl : l = []
        · subst hl
          exact EvXL.last (gt_r_ldshort0 b at_ nx ld sz hb hld hsz (by omega) h3 h4) (by simp)
        · rw [gtS, if_neg hl]
          exact EvXL.last (gt_r_ldshort1 b at_ nx ld sz l hb hld hsz (by omega) (by omega) h3 h4) (by simp)
      rw [if_neg h4]
      by_cases h5 : at_ ≤ leadTo b at_
      · rw [if_pos (.inl h5)]
        by_cases hl : l = []
        · subst hl
          exact EvXL.last (gt_r_ldto0 b at_ nx ld sz hb hld hsz (by omega) h3 h5) (by simp)
        · rw [gtS, if_neg hl]
          exact EvXL.last (gt_r_ldto1 b at_ nx ld sz l hb hld hsz (by omega) (by omega) h3 h5) (by simp)
      by_cases h6 : 64 ≤ ld
      · rw [if_pos (.inr h6)]
        by_cases hl : l = []
        · subst hl
          exact EvXL.last (gt_r_ldmany0 b at_ nx ld sz hb hld hsz (by omega) h3 (by omega) h6) (by simp)
        · rw [gtS, if_neg hl]
          exact EvXL.last (gt_r_ldmany1 b at_ nx ld sz l hb hld hsz (by omega) (by omega) h3 (by omega) h6) (by simp)
      rw [if_neg (by omega)]
      have ih := gt_loop b hb k (leadTo b at_) (nextP nx (at_ + 2)) (ld + 1) sz l (by omega) (by omega) hsz hll
      by_cases hn : nx < 0
      · have e : nextP nx (at_ + 2) = ((at_ + 2 : Nat) : Int) := by simp [nextP, hn]
        rw [e] at ih ⊢
        by_cases hl : l = []
        · subst hl
          exact EvXL.step (gt_r_lda0 b at_ nx ld sz hb hld hsz (by omega) h3 (by omega) (by omega) hn) ih
        · rw [gtS, if_neg hl] at ih ⊢
          exact EvXL.step (gt_r_lda1 b at_ nx ld sz l hb hld hsz (by omega) (by omega) h3 (by omega) (by omega) hn) ih
      · have e : nextP nx (at_ + 2) = nx := by simp [nextP, hn]
        rw [e] at ih ⊢
        by_cases hl : l = []
        · subst hl
          exact EvXL.step (gt_r_ldb0 b at_ nx ld sz hb hld hsz (by omega) h3 (by omega) (by omega) hn) ih
        · rw [gtS, if_neg hl] at ih ⊢
          exact EvXL.step (gt_r_ldb1 b at_ nx ld sz l hb hld hsz (by omega) (by omega) h3 (by omega) (by omega) hn) ih
    rw [if_neg h3]
    by_cases h4 : 64 ≤ (b.getD at_ 0).toNat
    · rw [if_pos h4]
      by_cases hl : l = []
      · subst hl
        exact EvXL.last (gt_r_big0 b at_ nx ld sz hb hld hsz (by omega) (by omega) h4) (by simp)
      · rw [gtS, if_neg hl]
        exact EvXL.last (gt_r_big1 b at_ nx ld sz l hb hld hsz (by omega) (by omega) (by omega) h4) (by simp)
    rw [if_neg h4]
    by_cases h5 : b.length < at_ + 1 + (b.getD at_ 0).toNat
    · rw [if_pos h5]
      by_cases hl : l = []
      · subst hl
        exact EvXL.last (gt_r_labshort0 b at_ nx ld sz hb hld hsz (by omega) h2 (by omega) h5) (by simp)
      · rw [gtS, if_neg hl]
        exact EvXL.last (gt_r_labshort1 b at_ nx ld sz l hb hld hsz (by omega) (by omega) h2 (by omega) h5) (by simp)
    rw [if_neg h5]
    by_cases h6 : 253 < sz + (b.getD at_ 0).toNat
    · rw [if_pos h6]
      by_cases hl : l = []
      · subst hl
        exact EvXL.last (gt_r_labsize0 b at_ nx ld sz hb hld hsz (by omega) h2 (by omega) h6) (by simp)
      · rw [gtS, if_neg hl]
        exact EvXL.last (gt_r_labsize1 b at_ nx ld sz l hb hld hsz (by omega) (by omega) h2 (by omega) h6) (by simp)
    rw [if_neg h6]
    have ih := gt_loop b hb k (at_ + 1 + (b.getD at_ 0).toNat) nx ld (sz + 1 + (b.getD at_ 0).toNat) (l ++ [(b.drop (at_ + 1)).take (b.getD at_ 0).toNat]) (by omega) hld (by omega) (by simp; omega)
    rw [gtS, if_neg (by simp)] at ih
    by_cases hl : l = []
    · subst hl
      exact EvXL.step (EvX.flat (G' := gtG1 b (at_ + 1 + (b.getD at_ 0).toNat) nx ld (sz + 1 + (b.getD at_ 0).toNat) [(b.drop (at_ + 1)).take (b.getD at_ 0).toNat]) (gt_r_lab0 b at_ nx ld sz hb hld hsz (by omega) h2 (by omega) (by omega)) rfl rfl rfl (by first | exact ⟨rfl, AObj.Eqv.refl _, rfl, objFlat_eqv .., trivial⟩ | exact ⟨rfl, objFlat_eqv .., trivial⟩)) ih
    · rw [gtS, if_neg hl]
      exact EvXL.step (gt_r_lab1 b at_ nx ld sz l hb hld hsz (by omega) (by omega) h2 (by omega) (by omega)) ih

theorem gt_top (b : List UInt8) (hb : b.length ≤ 1000000000) (at_ : Nat) : EvXL Try.prog 0 (loopAt Try.prog 41 2) ((gtG b at_ (-1) 0 0).st 0) .ret ((gtO (getW b (at_ : Int))).st 0) := by
  have h := gt_loop b hb 400 at_ (-1) 0 0 [] (by omega) (by omega) (by omega) (by simp)
  have e : getW b (at_ : Int) = getF b 400 at_ (-1) 0 0 [] := by
    unfold getW
    rw [if_neg (by omega), Int.toNat_natCast]
  rw [e]
  exact h

end Go.Proofs.Ytmilcpejchjleaa
