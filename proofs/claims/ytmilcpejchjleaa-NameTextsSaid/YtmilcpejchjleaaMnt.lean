/- Several texts in one: NtxRun, Ntx. -/
import Derived.Test.YtmilcpejchjleaaMrp

/- A name's text, a text's name, whether two are alike: the law, reckoned. -/
namespace Go.Proofs.Ytmilcpejchjleaa
open Go.RowKit

set_option maxRecDepth 100000 in
theorem nt20_long1 (a : List (List UInt8)) (b : List (List UInt8)) (s : List UInt8) : outXS kT20a [(13, { op := [(3, 5, .br true)], gd := [(3, 3, true), (3, 4, true)] })] Try.prog 13 [AV.view (1 : Nat) (List.length a) fun i => [AV.val (Value.string { data := List.toArray (List.getD a i []) })], AV.view (1 : Nat) (List.length b) fun i => [AV.val (Value.string { data := List.toArray (List.getD b i []) })], AV.val (Value.string { data := List.toArray s })] [] 0 [] [] =
   some (AV.val (Value.bool true), [], 15,
   [(AV.view (1 : Nat) (List.length a) fun i => [AV.val (Value.string { data := List.toArray (List.getD a i []) })]) = AV.view (1 : Nat) (List.length (lsOf (AV.view (1 : Nat) (List.length a) fun i => [AV.val (Value.string { data := List.toArray (List.getD a i []) })]))) fun i => [AV.val (Value.string { data := List.toArray (List.getD (lsOf (AV.view (1 : Nat) (List.length a) fun i => [AV.val (Value.string { data := List.toArray (List.getD a i []) })])) i []) })],
   True,
   longN (lsOf (AV.view (1 : Nat) (List.length a) fun i => [AV.val (Value.string { data := List.toArray (List.getD a i []) })])) = true,
   longN (lsOf (AV.view (1 : Nat) (List.length a) fun i => [AV.val (Value.string { data := List.toArray (List.getD a i []) })])) = true,
   longN (lsOf (AV.view (1 : Nat) (List.length a) fun i => [AV.val (Value.string { data := List.toArray (List.getD a i []) })])) = true]) := by kernel_rfl

set_option maxRecDepth 100000 in
theorem nt20_long2 (a : List (List UInt8)) (b : List (List UInt8)) (s : List UInt8) : outXS kT20a [(13, { op := [(3, 5, .br false), (3, 10, .br true)], gd := [(3, 3, false), (3, 4, false), (3, 7, true), (3, 8, true), (3, 9, true)] })] Try.prog 13 [AV.view (1 : Nat) (List.length a) fun i => [AV.val (Value.string { data := List.toArray (List.getD a i []) })], AV.view (1 : Nat) (List.length b) fun i => [AV.val (Value.string { data := List.toArray (List.getD b i []) })], AV.val (Value.string { data := List.toArray s })] [] 0 [] [] =
   some (AV.val (Value.bool true), [], 15,
   [(AV.view (1 : Nat) (List.length a) fun i => [AV.val (Value.string { data := List.toArray (List.getD a i []) })]) = AV.view (1 : Nat) (List.length (lsOf (AV.view (1 : Nat) (List.length a) fun i => [AV.val (Value.string { data := List.toArray (List.getD a i []) })]))) fun i => [AV.val (Value.string { data := List.toArray (List.getD (lsOf (AV.view (1 : Nat) (List.length a) fun i => [AV.val (Value.string { data := List.toArray (List.getD a i []) })])) i []) })],
   True,
   longN (lsOf (AV.view (1 : Nat) (List.length a) fun i => [AV.val (Value.string { data := List.toArray (List.getD a i []) })])) = false,
   longN (lsOf (AV.view (1 : Nat) (List.length a) fun i => [AV.val (Value.string { data := List.toArray (List.getD a i []) })])) = false,
   (AV.view (1 : Nat) (List.length b) fun i => [AV.val (Value.string { data := List.toArray (List.getD b i []) })]) = AV.view (1 : Nat) (List.length (lsOf (AV.view (1 : Nat) (List.length b) fun i => [AV.val (Value.string { data := List.toArray (List.getD b i []) })]))) fun i => [AV.val (Value.string { data := List.toArray (List.getD (lsOf (AV.view (1 : Nat) (List.length b) fun i => [AV.val (Value.string { data := List.toArray (List.getD b i []) })])) i []) })],
   True,
   longN (lsOf (AV.view (1 : Nat) (List.length a) fun i => [AV.val (Value.string { data := List.toArray (List.getD a i []) })])) = false,
   longN (lsOf (AV.view (1 : Nat) (List.length b) fun i => [AV.val (Value.string { data := List.toArray (List.getD b i []) })])) = true,
   longN (lsOf (AV.view (1 : Nat) (List.length b) fun i => [AV.val (Value.string { data := List.toArray (List.getD b i []) })])) = true,
   longN (lsOf (AV.view (1 : Nat) (List.length b) fun i => [AV.val (Value.string { data := List.toArray (List.getD b i []) })])) = true,
   longN (lsOf (AV.view (1 : Nat) (List.length b) fun i => [AV.val (Value.string { data := List.toArray (List.getD b i []) })])) = true]) := by kernel_rfl

set_option maxRecDepth 100000 in
theorem nt20_long3 (a : List (List UInt8)) (b : List (List UInt8)) (s : List UInt8) : outXS kT20a [(13, { op := [(3, 5, .br false), (3, 10, .br false)], gd := [(3, 3, false), (3, 4, false), (3, 7, false), (3, 8, false), (3, 9, false)], br := [(23, true)] })] Try.prog 13 [AV.view (1 : Nat) (List.length a) fun i => [AV.val (Value.string { data := List.toArray (List.getD a i []) })], AV.view (1 : Nat) (List.length b) fun i => [AV.val (Value.string { data := List.toArray (List.getD b i []) })], AV.val (Value.string { data := List.toArray s })] [] 0 [] [] =
   some (AV.val (Value.bool true), [], 15,
   [(AV.view (1 : Nat) (List.length a) fun i => [AV.val (Value.string { data := List.toArray (List.getD a i []) })]) = AV.view (1 : Nat) (List.length (lsOf (AV.view (1 : Nat) (List.length a) fun i => [AV.val (Value.string { data := List.toArray (List.getD a i []) })]))) fun i => [AV.val (Value.string { data := List.toArray (List.getD (lsOf (AV.view (1 : Nat) (List.length a) fun i => [AV.val (Value.string { data := List.toArray (List.getD a i []) })])) i []) })],
   True,
   longN (lsOf (AV.view (1 : Nat) (List.length a) fun i => [AV.val (Value.string { data := List.toArray (List.getD a i []) })])) = false,
   longN (lsOf (AV.view (1 : Nat) (List.length a) fun i => [AV.val (Value.string { data := List.toArray (List.getD a i []) })])) = false,
   (AV.view (1 : Nat) (List.length b) fun i => [AV.val (Value.string { data := List.toArray (List.getD b i []) })]) = AV.view (1 : Nat) (List.length (lsOf (AV.view (1 : Nat) (List.length b) fun i => [AV.val (Value.string { data := List.toArray (List.getD b i []) })]))) fun i => [AV.val (Value.string { data := List.toArray (List.getD (lsOf (AV.view (1 : Nat) (List.length b) fun i => [AV.val (Value.string { data := List.toArray (List.getD b i []) })])) i []) })],
   True,
   longN (lsOf (AV.view (1 : Nat) (List.length a) fun i => [AV.val (Value.string { data := List.toArray (List.getD a i []) })])) = false,
   longN (lsOf (AV.view (1 : Nat) (List.length b) fun i => [AV.val (Value.string { data := List.toArray (List.getD b i []) })])) = false,
   longN (lsOf (AV.view (1 : Nat) (List.length b) fun i => [AV.val (Value.string { data := List.toArray (List.getD b i []) })])) = false,
   longN (lsOf (AV.view (1 : Nat) (List.length b) fun i => [AV.val (Value.string { data := List.toArray (List.getD b i []) })])) = false,
   longN (lsOf (AV.view (1 : Nat) (List.length b) fun i => [AV.val (Value.string { data := List.toArray (List.getD b i []) })])) = false,
   decide ((↑(List.length s) : Int) > (1500 : Int)) = true]) := by kernel_rfl

set_option maxRecDepth 100000 in
theorem nt20_root (a : List (List UInt8)) (b : List (List UInt8)) (s : List UInt8) : outXS kT20a [(13, { op := [(3, 5, .br false), (3, 10, .br false), (7, 13, .br true), (7, 19, .br true)], gd := [(3, 3, false), (3, 4, false), (3, 7, false), (3, 8, false), (3, 9, false), (7, 6, true), (7, 7, true), (7, 8, true), (7, 9, true), (7, 10, true), (7, 11, true), (7, 12, true), (7, 15, true), (7, 16, true), (7, 17, true), (7, 18, true)], br := [(23, false)] })] Try.prog 13 [AV.view (1 : Nat) (List.length a) fun i => [AV.val (Value.string { data := List.toArray (List.getD a i []) })], AV.view (1 : Nat) (List.length b) fun i => [AV.val (Value.string { data := List.toArray (List.getD b i []) })], AV.val (Value.string { data := List.toArray s })] [] 0 [] [] =
   some (AV.val (Value.bool true), [], 122,
   [(AV.view (1 : Nat) (List.length a) fun i => [AV.val (Value.string { data := List.toArray (List.getD a i []) })]) = AV.view (1 : Nat) (List.length (lsOf (AV.view (1 : Nat) (List.length a) fun i => [AV.val (Value.string { data := List.toArray (List.getD a i []) })]))) fun i => [AV.val (Value.string { data := List.toArray (List.getD (lsOf (AV.view (1 : Nat) (List.length a) fun i => [AV.val (Value.string { data := List.toArray (List.getD a i []) })])) i []) })],
   True,
   longN (lsOf (AV.view (1 : Nat) (List.length a) fun i => [AV.val (Value.string { data := List.toArray (List.getD a i []) })])) = false,
   longN (lsOf (AV.view (1 : Nat) (List.length a) fun i => [AV.val (Value.string { data := List.toArray (List.getD a i []) })])) = false,
   (AV.view (1 : Nat) (List.length b) fun i => [AV.val (Value.string { data := List.toArray (List.getD b i []) })]) = AV.view (1 : Nat) (List.length (lsOf (AV.view (1 : Nat) (List.length b) fun i => [AV.val (Value.string { data := List.toArray (List.getD b i []) })]))) fun i => [AV.val (Value.string { data := List.toArray (List.getD (lsOf (AV.view (1 : Nat) (List.length b) fun i => [AV.val (Value.string { data := List.toArray (List.getD b i []) })])) i []) })],
   True,
   longN (lsOf (AV.view (1 : Nat) (List.length a) fun i => [AV.val (Value.string { data := List.toArray (List.getD a i []) })])) = false,
   longN (lsOf (AV.view (1 : Nat) (List.length b) fun i => [AV.val (Value.string { data := List.toArray (List.getD b i []) })])) = false,
   longN (lsOf (AV.view (1 : Nat) (List.length b) fun i => [AV.val (Value.string { data := List.toArray (List.getD b i []) })])) = false,
   longN (lsOf (AV.view (1 : Nat) (List.length b) fun i => [AV.val (Value.string { data := List.toArray (List.getD b i []) })])) = false,
   longN (lsOf (AV.view (1 : Nat) (List.length b) fun i => [AV.val (Value.string { data := List.toArray (List.getD b i []) })])) = false,
   decide ((↑(List.length s) : Int) > (1500 : Int)) = false,
   AV.val (Value.string { data := List.toArray s }) = AV.val (Value.string { data := List.toArray (strB [AV.val (Value.string { data := List.toArray s })]) }),
   strB [AV.val (Value.string { data := List.toArray s })] = [(46 : UInt8)],
   AV.val (Value.string { data := List.toArray s }) = AV.val (Value.string { data := List.toArray (strB [AV.val (Value.string { data := List.toArray s })]) }),
   strB [AV.val (Value.string { data := List.toArray s })] = [(46 : UInt8)],
   (AV.view (1 : Nat) (List.length a) fun i => [AV.val (Value.string { data := List.toArray (List.getD a i []) })]) = AV.view (1 : Nat) (List.length (lsOf (AV.view (1 : Nat) (List.length a) fun i => [AV.val (Value.string { data := List.toArray (List.getD a i []) })]))) fun i => [AV.val (Value.string { data := List.toArray (List.getD (lsOf (AV.view (1 : Nat) (List.length a) fun i => [AV.val (Value.string { data := List.toArray (List.getD a i []) })])) i []) })],
   lsK (lsOf (AV.view (1 : Nat) (List.length a) fun i => [AV.val (Value.string { data := List.toArray (List.getD a i []) })])),
   (AV.view (1 : Nat) (List.length a) fun i => [AV.val (Value.string { data := List.toArray (List.getD a i []) })]) = AV.view (1 : Nat) (List.length (lsOf (AV.view (1 : Nat) (List.length a) fun i => [AV.val (Value.string { data := List.toArray (List.getD a i []) })]))) fun i => [AV.val (Value.string { data := List.toArray (List.getD (lsOf (AV.view (1 : Nat) (List.length a) fun i => [AV.val (Value.string { data := List.toArray (List.getD a i []) })])) i []) })],
   lsT (lsOf (AV.view (1 : Nat) (List.length a) fun i => [AV.val (Value.string { data := List.toArray (List.getD a i []) })])),
   (ByteArray.toList { data := List.toArray (textN (lsOf (AV.view (1 : Nat) (List.length a) fun i => [AV.val (Value.string { data := List.toArray (List.getD a i []) })]))) } == ByteArray.toList { data := List.toArray (textN (lsOf (AV.view (1 : Nat) (List.length a) fun i => [AV.val (Value.string { data := List.toArray (List.getD a i []) })]))) }) = true,
   (ByteArray.toList { data := List.toArray (textN (lsOf (AV.view (1 : Nat) (List.length a) fun i => [AV.val (Value.string { data := List.toArray (List.getD a i []) })]))) } == ByteArray.toList { data := List.toArray (textN (lsOf (AV.view (1 : Nat) (List.length a) fun i => [AV.val (Value.string { data := List.toArray (List.getD a i []) })]))) }) = true,
   (ByteArray.toList { data := List.toArray (textN (lsOf (AV.view (1 : Nat) (List.length a) fun i => [AV.val (Value.string { data := List.toArray (List.getD a i []) })]))) } == ByteArray.toList { data := List.toArray (textN (lsOf (AV.view (1 : Nat) (List.length a) fun i => [AV.val (Value.string { data := List.toArray (List.getD a i []) })]))) }) = true,
   (AV.view (1 : Nat) (List.length a) fun i => [AV.val (Value.string { data := List.toArray (List.getD a i []) })]) = AV.view (1 : Nat) (List.length (lsOf (AV.view (1 : Nat) (List.length a) fun i => [AV.val (Value.string { data := List.toArray (List.getD a i []) })]))) fun i => [AV.val (Value.string { data := List.toArray (List.getD (lsOf (AV.view (1 : Nat) (List.length a) fun i => [AV.val (Value.string { data := List.toArray (List.getD a i []) })])) i []) })],
   (AV.view (1 : Nat) (List.length b) fun i => [AV.val (Value.string { data := List.toArray (List.getD b i []) })]) = AV.view (1 : Nat) (List.length (lsOf (AV.view (1 : Nat) (List.length b) fun i => [AV.val (Value.string { data := List.toArray (List.getD b i []) })]))) fun i => [AV.val (Value.string { data := List.toArray (List.getD (lsOf (AV.view (1 : Nat) (List.length b) fun i => [AV.val (Value.string { data := List.toArray (List.getD b i []) })])) i []) })],
   lsK (lsOf (AV.view (1 : Nat) (List.length a) fun i => [AV.val (Value.string { data := List.toArray (List.getD a i []) })])),
   (ByteArray.toList { data := List.toArray (textN (lsOf (AV.view (1 : Nat) (List.length a) fun i => [AV.val (Value.string { data := List.toArray (List.getD a i []) })]))) } == ByteArray.toList { data := List.toArray (textN (lsOf (AV.view (1 : Nat) (List.length a) fun i => [AV.val (Value.string { data := List.toArray (List.getD a i []) })]))) }) = true,
   (ByteArray.toList { data := List.toArray (textN (lsOf (AV.view (1 : Nat) (List.length a) fun i => [AV.val (Value.string { data := List.toArray (List.getD a i []) })]))) } == ByteArray.toList { data := List.toArray (textN (lsOf (AV.view (1 : Nat) (List.length a) fun i => [AV.val (Value.string { data := List.toArray (List.getD a i []) })]))) }) = true,
   (ByteArray.toList { data := List.toArray (textN (lsOf (AV.view (1 : Nat) (List.length a) fun i => [AV.val (Value.string { data := List.toArray (List.getD a i []) })]))) } == ByteArray.toList { data := List.toArray (textN (lsOf (AV.view (1 : Nat) (List.length a) fun i => [AV.val (Value.string { data := List.toArray (List.getD a i []) })]))) }) = true,
   (AV.view (1 : Nat) (List.length a) fun i => [AV.val (Value.string { data := List.toArray (List.getD a i []) })]) = AV.view (1 : Nat) (List.length (lsOf (AV.view (1 : Nat) (List.length a) fun i => [AV.val (Value.string { data := List.toArray (List.getD a i []) })]))) fun i => [AV.val (Value.string { data := List.toArray (List.getD (lsOf (AV.view (1 : Nat) (List.length a) fun i => [AV.val (Value.string { data := List.toArray (List.getD a i []) })])) i []) })],
   (AV.view (1 : Nat) (List.length b) fun i => [AV.val (Value.string { data := List.toArray (List.getD b i []) })]) = AV.view (1 : Nat) (List.length (lsOf (AV.view (1 : Nat) (List.length b) fun i => [AV.val (Value.string { data := List.toArray (List.getD b i []) })]))) fun i => [AV.val (Value.string { data := List.toArray (List.getD (lsOf (AV.view (1 : Nat) (List.length b) fun i => [AV.val (Value.string { data := List.toArray (List.getD b i []) })])) i []) })],
   lsK (lsOf (AV.view (1 : Nat) (List.length a) fun i => [AV.val (Value.string { data := List.toArray (List.getD a i []) })])),
   (ByteArray.toList { data := List.toArray (textN (lsOf (AV.view (1 : Nat) (List.length a) fun i => [AV.val (Value.string { data := List.toArray (List.getD a i []) })]))) } == ByteArray.toList { data := List.toArray (textN (lsOf (AV.view (1 : Nat) (List.length a) fun i => [AV.val (Value.string { data := List.toArray (List.getD a i []) })]))) }) = true,
   (ByteArray.toList { data := List.toArray (textN (lsOf (AV.view (1 : Nat) (List.length a) fun i => [AV.val (Value.string { data := List.toArray (List.getD a i []) })]))) } == ByteArray.toList { data := List.toArray (textN (lsOf (AV.view (1 : Nat) (List.length a) fun i => [AV.val (Value.string { data := List.toArray (List.getD a i []) })]))) }) = true,
   (sameN (lsOf (AV.view (1 : Nat) (List.length a) fun i => [AV.val (Value.string { data := List.toArray (List.getD a i []) })])) (lsOf (AV.view (1 : Nat) (List.length b) fun i => [AV.val (Value.string { data := List.toArray (List.getD b i []) })])) == sameN (lsOf (AV.view (1 : Nat) (List.length a) fun i => [AV.val (Value.string { data := List.toArray (List.getD a i []) })])) (lsOf (AV.view (1 : Nat) (List.length b) fun i => [AV.val (Value.string { data := List.toArray (List.getD b i []) })]))) = true,
   (sameN (lsOf (AV.view (1 : Nat) (List.length a) fun i => [AV.val (Value.string { data := List.toArray (List.getD a i []) })])) (lsOf (AV.view (1 : Nat) (List.length b) fun i => [AV.val (Value.string { data := List.toArray (List.getD b i []) })])) == sameN (lsOf (AV.view (1 : Nat) (List.length a) fun i => [AV.val (Value.string { data := List.toArray (List.getD a i []) })])) (lsOf (AV.view (1 : Nat) (List.length b) fun i => [AV.val (Value.string { data := List.toArray (List.getD b i []) })]))) = true,
   (sameN (lsOf (AV.view (1 : Nat) (List.length a) fun i => [AV.val (Value.string { data := List.toArray (List.getD a i []) })])) (lsOf (AV.view (1 : Nat) (List.length b) fun i => [AV.val (Value.string { data := List.toArray (List.getD b i []) })])) == sameN (lsOf (AV.view (1 : Nat) (List.length a) fun i => [AV.val (Value.string { data := List.toArray (List.getD a i []) })])) (lsOf (AV.view (1 : Nat) (List.length b) fun i => [AV.val (Value.string { data := List.toArray (List.getD b i []) })]))) = true,
   (sameN (lsOf (AV.view (1 : Nat) (List.length a) fun i => [AV.val (Value.string { data := List.toArray (List.getD a i []) })])) (lsOf (AV.view (1 : Nat) (List.length b) fun i => [AV.val (Value.string { data := List.toArray (List.getD b i []) })])) == sameN (lsOf (AV.view (1 : Nat) (List.length a) fun i => [AV.val (Value.string { data := List.toArray (List.getD a i []) })])) (lsOf (AV.view (1 : Nat) (List.length b) fun i => [AV.val (Value.string { data := List.toArray (List.getD b i []) })]))) = true,
   (sameN (lsOf (AV.view (1 : Nat) (List.length a) fun i => [AV.val (Value.string { data := List.toArray (List.getD a i []) })])) (lsOf (AV.view (1 : Nat) (List.length b) fun i => [AV.val (Value.string { data := List.toArray (List.getD b i []) })])) == sameN (lsOf (AV.view (1 : Nat) (List.length a) fun i => [AV.val (Value.string { data := List.toArray (List.getD a i []) })])) (lsOf (AV.view (1 : Nat) (List.length b) fun i => [AV.val (Value.string { data := List.toArray (List.getD b i []) })]))) = true,
   Value.slice none (0 : Nat) (0 : Nat) = Value.slice none (0 : Nat) (0 : Nat),
   Value.slice none (0 : Nat) (0 : Nat) = Value.slice none (0 : Nat) (0 : Nat),
   (0 : Nat) ≤ (1000000000 : Nat)]) := by kernel_rfl

set_option maxRecDepth 100000 in
theorem nt20_bad (a : List (List UInt8)) (b : List (List UInt8)) (s : List UInt8) : outXS kT20b [(13, { op := [(3, 5, .br false), (3, 10, .br false), (7, 13, .br true), (7, 19, .br true)], gd := [(3, 3, false), (3, 4, false), (3, 7, false), (3, 8, false), (3, 9, false), (7, 6, true), (7, 7, true), (7, 8, true), (7, 9, true), (7, 10, true), (7, 11, true), (7, 12, true), (7, 15, true), (7, 16, true), (7, 17, true), (7, 18, true)], br := [(23, false)] })] Try.prog 13 [AV.view (1 : Nat) (List.length a) fun i => [AV.val (Value.string { data := List.toArray (List.getD a i []) })], AV.view (1 : Nat) (List.length b) fun i => [AV.val (Value.string { data := List.toArray (List.getD b i []) })], AV.val (Value.string { data := List.toArray s })] [] 0 [] [] =
   some (AV.val (Value.bool true), [], 122,
   [(AV.view (1 : Nat) (List.length a) fun i => [AV.val (Value.string { data := List.toArray (List.getD a i []) })]) = AV.view (1 : Nat) (List.length (lsOf (AV.view (1 : Nat) (List.length a) fun i => [AV.val (Value.string { data := List.toArray (List.getD a i []) })]))) fun i => [AV.val (Value.string { data := List.toArray (List.getD (lsOf (AV.view (1 : Nat) (List.length a) fun i => [AV.val (Value.string { data := List.toArray (List.getD a i []) })])) i []) })],
   True,
   longN (lsOf (AV.view (1 : Nat) (List.length a) fun i => [AV.val (Value.string { data := List.toArray (List.getD a i []) })])) = false,
   longN (lsOf (AV.view (1 : Nat) (List.length a) fun i => [AV.val (Value.string { data := List.toArray (List.getD a i []) })])) = false,
   (AV.view (1 : Nat) (List.length b) fun i => [AV.val (Value.string { data := List.toArray (List.getD b i []) })]) = AV.view (1 : Nat) (List.length (lsOf (AV.view (1 : Nat) (List.length b) fun i => [AV.val (Value.string { data := List.toArray (List.getD b i []) })]))) fun i => [AV.val (Value.string { data := List.toArray (List.getD (lsOf (AV.view (1 : Nat) (List.length b) fun i => [AV.val (Value.string { data := List.toArray (List.getD b i []) })])) i []) })],
   True,
   longN (lsOf (AV.view (1 : Nat) (List.length a) fun i => [AV.val (Value.string { data := List.toArray (List.getD a i []) })])) = false,
   longN (lsOf (AV.view (1 : Nat) (List.length b) fun i => [AV.val (Value.string { data := List.toArray (List.getD b i []) })])) = false,
   longN (lsOf (AV.view (1 : Nat) (List.length b) fun i => [AV.val (Value.string { data := List.toArray (List.getD b i []) })])) = false,
   longN (lsOf (AV.view (1 : Nat) (List.length b) fun i => [AV.val (Value.string { data := List.toArray (List.getD b i []) })])) = false,
   longN (lsOf (AV.view (1 : Nat) (List.length b) fun i => [AV.val (Value.string { data := List.toArray (List.getD b i []) })])) = false,
   decide ((↑(List.length s) : Int) > (1500 : Int)) = false,
   AV.val (Value.string { data := List.toArray s }) = AV.val (Value.string { data := List.toArray (strB [AV.val (Value.string { data := List.toArray s })]) }),
   strB [AV.val (Value.string { data := List.toArray s })] ≠ [(46 : UInt8)],
   List.length (strB [AV.val (Value.string { data := List.toArray s })]) ≤ (900000 : Nat),
   parO (strB [AV.val (Value.string { data := List.toArray s })]) = false,
   AV.val (Value.string { data := List.toArray s }) = AV.val (Value.string { data := List.toArray (strB [AV.val (Value.string { data := List.toArray s })]) }),
   strB [AV.val (Value.string { data := List.toArray s })] ≠ [(46 : UInt8)],
   List.length (strB [AV.val (Value.string { data := List.toArray s })]) ≤ (900000 : Nat),
   parO (strB [AV.val (Value.string { data := List.toArray s })]) = false,
   (AV.view (1 : Nat) (List.length a) fun i => [AV.val (Value.string { data := List.toArray (List.getD a i []) })]) = AV.view (1 : Nat) (List.length (lsOf (AV.view (1 : Nat) (List.length a) fun i => [AV.val (Value.string { data := List.toArray (List.getD a i []) })]))) fun i => [AV.val (Value.string { data := List.toArray (List.getD (lsOf (AV.view (1 : Nat) (List.length a) fun i => [AV.val (Value.string { data := List.toArray (List.getD a i []) })])) i []) })],
   lsK (lsOf (AV.view (1 : Nat) (List.length a) fun i => [AV.val (Value.string { data := List.toArray (List.getD a i []) })])),
   (AV.view (1 : Nat) (List.length a) fun i => [AV.val (Value.string { data := List.toArray (List.getD a i []) })]) = AV.view (1 : Nat) (List.length (lsOf (AV.view (1 : Nat) (List.length a) fun i => [AV.val (Value.string { data := List.toArray (List.getD a i []) })]))) fun i => [AV.val (Value.string { data := List.toArray (List.getD (lsOf (AV.view (1 : Nat) (List.length a) fun i => [AV.val (Value.string { data := List.toArray (List.getD a i []) })])) i []) })],
   lsT (lsOf (AV.view (1 : Nat) (List.length a) fun i => [AV.val (Value.string { data := List.toArray (List.getD a i []) })])),
   (ByteArray.toList { data := List.toArray (textN (lsOf (AV.view (1 : Nat) (List.length a) fun i => [AV.val (Value.string { data := List.toArray (List.getD a i []) })]))) } == ByteArray.toList { data := List.toArray (textN (lsOf (AV.view (1 : Nat) (List.length a) fun i => [AV.val (Value.string { data := List.toArray (List.getD a i []) })]))) }) = true,
   (ByteArray.toList { data := List.toArray (textN (lsOf (AV.view (1 : Nat) (List.length a) fun i => [AV.val (Value.string { data := List.toArray (List.getD a i []) })]))) } == ByteArray.toList { data := List.toArray (textN (lsOf (AV.view (1 : Nat) (List.length a) fun i => [AV.val (Value.string { data := List.toArray (List.getD a i []) })]))) }) = true,
   (ByteArray.toList { data := List.toArray (textN (lsOf (AV.view (1 : Nat) (List.length a) fun i => [AV.val (Value.string { data := List.toArray (List.getD a i []) })]))) } == ByteArray.toList { data := List.toArray (textN (lsOf (AV.view (1 : Nat) (List.length a) fun i => [AV.val (Value.string { data := List.toArray (List.getD a i []) })]))) }) = true,
   (AV.view (1 : Nat) (List.length a) fun i => [AV.val (Value.string { data := List.toArray (List.getD a i []) })]) = AV.view (1 : Nat) (List.length (lsOf (AV.view (1 : Nat) (List.length a) fun i => [AV.val (Value.string { data := List.toArray (List.getD a i []) })]))) fun i => [AV.val (Value.string { data := List.toArray (List.getD (lsOf (AV.view (1 : Nat) (List.length a) fun i => [AV.val (Value.string { data := List.toArray (List.getD a i []) })])) i []) })],
   (AV.view (1 : Nat) (List.length b) fun i => [AV.val (Value.string { data := List.toArray (List.getD b i []) })]) = AV.view (1 : Nat) (List.length (lsOf (AV.view (1 : Nat) (List.length b) fun i => [AV.val (Value.string { data := List.toArray (List.getD b i []) })]))) fun i => [AV.val (Value.string { data := List.toArray (List.getD (lsOf (AV.view (1 : Nat) (List.length b) fun i => [AV.val (Value.string { data := List.toArray (List.getD b i []) })])) i []) })],
   lsK (lsOf (AV.view (1 : Nat) (List.length a) fun i => [AV.val (Value.string { data := List.toArray (List.getD a i []) })])),
   (ByteArray.toList { data := List.toArray (textN (lsOf (AV.view (1 : Nat) (List.length a) fun i => [AV.val (Value.string { data := List.toArray (List.getD a i []) })]))) } == ByteArray.toList { data := List.toArray (textN (lsOf (AV.view (1 : Nat) (List.length a) fun i => [AV.val (Value.string { data := List.toArray (List.getD a i []) })]))) }) = true,
   (ByteArray.toList { data := List.toArray (textN (lsOf (AV.view (1 : Nat) (List.length a) fun i => [AV.val (Value.string { data := List.toArray (List.getD a i []) })]))) } == ByteArray.toList { data := List.toArray (textN (lsOf (AV.view (1 : Nat) (List.length a) fun i => [AV.val (Value.string { data := List.toArray (List.getD a i []) })]))) }) = true,
   (ByteArray.toList { data := List.toArray (textN (lsOf (AV.view (1 : Nat) (List.length a) fun i => [AV.val (Value.string { data := List.toArray (List.getD a i []) })]))) } == ByteArray.toList { data := List.toArray (textN (lsOf (AV.view (1 : Nat) (List.length a) fun i => [AV.val (Value.string { data := List.toArray (List.getD a i []) })]))) }) = true,
   (AV.view (1 : Nat) (List.length a) fun i => [AV.val (Value.string { data := List.toArray (List.getD a i []) })]) = AV.view (1 : Nat) (List.length (lsOf (AV.view (1 : Nat) (List.length a) fun i => [AV.val (Value.string { data := List.toArray (List.getD a i []) })]))) fun i => [AV.val (Value.string { data := List.toArray (List.getD (lsOf (AV.view (1 : Nat) (List.length a) fun i => [AV.val (Value.string { data := List.toArray (List.getD a i []) })])) i []) })],
   (AV.view (1 : Nat) (List.length b) fun i => [AV.val (Value.string { data := List.toArray (List.getD b i []) })]) = AV.view (1 : Nat) (List.length (lsOf (AV.view (1 : Nat) (List.length b) fun i => [AV.val (Value.string { data := List.toArray (List.getD b i []) })]))) fun i => [AV.val (Value.string { data := List.toArray (List.getD (lsOf (AV.view (1 : Nat) (List.length b) fun i => [AV.val (Value.string { data := List.toArray (List.getD b i []) })])) i []) })],
   lsK (lsOf (AV.view (1 : Nat) (List.length a) fun i => [AV.val (Value.string { data := List.toArray (List.getD a i []) })])),
   (ByteArray.toList { data := List.toArray (textN (lsOf (AV.view (1 : Nat) (List.length a) fun i => [AV.val (Value.string { data := List.toArray (List.getD a i []) })]))) } == ByteArray.toList { data := List.toArray (textN (lsOf (AV.view (1 : Nat) (List.length a) fun i => [AV.val (Value.string { data := List.toArray (List.getD a i []) })]))) }) = true,
   (ByteArray.toList { data := List.toArray (textN (lsOf (AV.view (1 : Nat) (List.length a) fun i => [AV.val (Value.string { data := List.toArray (List.getD a i []) })]))) } == ByteArray.toList { data := List.toArray (textN (lsOf (AV.view (1 : Nat) (List.length a) fun i => [AV.val (Value.string { data := List.toArray (List.getD a i []) })]))) }) = true,
   (sameN (lsOf (AV.view (1 : Nat) (List.length a) fun i => [AV.val (Value.string { data := List.toArray (List.getD a i []) })])) (lsOf (AV.view (1 : Nat) (List.length b) fun i => [AV.val (Value.string { data := List.toArray (List.getD b i []) })])) == sameN (lsOf (AV.view (1 : Nat) (List.length a) fun i => [AV.val (Value.string { data := List.toArray (List.getD a i []) })])) (lsOf (AV.view (1 : Nat) (List.length b) fun i => [AV.val (Value.string { data := List.toArray (List.getD b i []) })]))) = true,
   (sameN (lsOf (AV.view (1 : Nat) (List.length a) fun i => [AV.val (Value.string { data := List.toArray (List.getD a i []) })])) (lsOf (AV.view (1 : Nat) (List.length b) fun i => [AV.val (Value.string { data := List.toArray (List.getD b i []) })])) == sameN (lsOf (AV.view (1 : Nat) (List.length a) fun i => [AV.val (Value.string { data := List.toArray (List.getD a i []) })])) (lsOf (AV.view (1 : Nat) (List.length b) fun i => [AV.val (Value.string { data := List.toArray (List.getD b i []) })]))) = true,
   (sameN (lsOf (AV.view (1 : Nat) (List.length a) fun i => [AV.val (Value.string { data := List.toArray (List.getD a i []) })])) (lsOf (AV.view (1 : Nat) (List.length b) fun i => [AV.val (Value.string { data := List.toArray (List.getD b i []) })])) == sameN (lsOf (AV.view (1 : Nat) (List.length a) fun i => [AV.val (Value.string { data := List.toArray (List.getD a i []) })])) (lsOf (AV.view (1 : Nat) (List.length b) fun i => [AV.val (Value.string { data := List.toArray (List.getD b i []) })]))) = true,
   (sameN (lsOf (AV.view (1 : Nat) (List.length a) fun i => [AV.val (Value.string { data := List.toArray (List.getD a i []) })])) (lsOf (AV.view (1 : Nat) (List.length b) fun i => [AV.val (Value.string { data := List.toArray (List.getD b i []) })])) == sameN (lsOf (AV.view (1 : Nat) (List.length a) fun i => [AV.val (Value.string { data := List.toArray (List.getD a i []) })])) (lsOf (AV.view (1 : Nat) (List.length b) fun i => [AV.val (Value.string { data := List.toArray (List.getD b i []) })]))) = true,
   (sameN (lsOf (AV.view (1 : Nat) (List.length a) fun i => [AV.val (Value.string { data := List.toArray (List.getD a i []) })])) (lsOf (AV.view (1 : Nat) (List.length b) fun i => [AV.val (Value.string { data := List.toArray (List.getD b i []) })])) == sameN (lsOf (AV.view (1 : Nat) (List.length a) fun i => [AV.val (Value.string { data := List.toArray (List.getD a i []) })])) (lsOf (AV.view (1 : Nat) (List.length b) fun i => [AV.val (Value.string { data := List.toArray (List.getD b i []) })]))) = true,
   Value.slice none (0 : Nat) (0 : Nat) = Value.slice none (0 : Nat) (0 : Nat),
   Value.slice none (0 : Nat) (0 : Nat) = Value.slice none (0 : Nat) (0 : Nat),
   (0 : Nat) ≤ (1000000000 : Nat)]) := by kernel_rfl

set_option maxRecDepth 100000 in
theorem nt20_ok (a : List (List UInt8)) (b : List (List UInt8)) (s : List UInt8) : outXS kT20c [(13, { op := [(3, 5, .br false), (3, 10, .br false), (7, 13, .br true), (7, 19, .br true)], gd := [(3, 3, false), (3, 4, false), (3, 7, false), (3, 8, false), (3, 9, false), (7, 6, true), (7, 7, true), (7, 8, true), (7, 9, true), (7, 10, true), (7, 11, true), (7, 12, true), (7, 15, true), (7, 16, true), (7, 17, true), (7, 18, true)], br := [(23, false)], ob := [(7, 30)] })] Try.prog 13 [AV.view (1 : Nat) (List.length a) fun i => [AV.val (Value.string { data := List.toArray (List.getD a i []) })], AV.view (1 : Nat) (List.length b) fun i => [AV.val (Value.string { data := List.toArray (List.getD b i []) })], AV.val (Value.string { data := List.toArray s })] [] 0 [] [] =
   some (AV.val (Value.bool (decide (txtL (List.take (List.length (labL (strB [AV.val (Value.string { data := List.toArray s })]))) (rowsL (labL (strB [AV.val (Value.string { data := List.toArray s })])))) = txtL (List.take (List.length (labL (strB [AV.val (Value.string { data := List.toArray s })]))) (rowsL (labL (strB [AV.val (Value.string { data := List.toArray s })]))))))), [], 80,
   [(AV.view (1 : Nat) (List.length a) fun i => [AV.val (Value.string { data := List.toArray (List.getD a i []) })]) = AV.view (1 : Nat) (List.length (lsOf (AV.view (1 : Nat) (List.length a) fun i => [AV.val (Value.string { data := List.toArray (List.getD a i []) })]))) fun i => [AV.val (Value.string { data := List.toArray (List.getD (lsOf (AV.view (1 : Nat) (List.length a) fun i => [AV.val (Value.string { data := List.toArray (List.getD a i []) })])) i []) })],
   True,
   longN (lsOf (AV.view (1 : Nat) (List.length a) fun i => [AV.val (Value.string { data := List.toArray (List.getD a i []) })])) = false,
   longN (lsOf (AV.view (1 : Nat) (List.length a) fun i => [AV.val (Value.string { data := List.toArray (List.getD a i []) })])) = false,
   (AV.view (1 : Nat) (List.length b) fun i => [AV.val (Value.string { data := List.toArray (List.getD b i []) })]) = AV.view (1 : Nat) (List.length (lsOf (AV.view (1 : Nat) (List.length b) fun i => [AV.val (Value.string { data := List.toArray (List.getD b i []) })]))) fun i => [AV.val (Value.string { data := List.toArray (List.getD (lsOf (AV.view (1 : Nat) (List.length b) fun i => [AV.val (Value.string { data := List.toArray (List.getD b i []) })])) i []) })],
   True,
   longN (lsOf (AV.view (1 : Nat) (List.length a) fun i => [AV.val (Value.string { data := List.toArray (List.getD a i []) })])) = false,
   longN (lsOf (AV.view (1 : Nat) (List.length b) fun i => [AV.val (Value.string { data := List.toArray (List.getD b i []) })])) = false,
   longN (lsOf (AV.view (1 : Nat) (List.length b) fun i => [AV.val (Value.string { data := List.toArray (List.getD b i []) })])) = false,
   longN (lsOf (AV.view (1 : Nat) (List.length b) fun i => [AV.val (Value.string { data := List.toArray (List.getD b i []) })])) = false,
   longN (lsOf (AV.view (1 : Nat) (List.length b) fun i => [AV.val (Value.string { data := List.toArray (List.getD b i []) })])) = false,
   decide ((↑(List.length s) : Int) > (1500 : Int)) = false,
   AV.val (Value.string { data := List.toArray s }) = AV.val (Value.string { data := List.toArray (strB [AV.val (Value.string { data := List.toArray s })]) }),
   strB [AV.val (Value.string { data := List.toArray s })] ≠ [(46 : UInt8)],
   List.length (strB [AV.val (Value.string { data := List.toArray s })]) ≤ (900000 : Nat),
   parO (strB [AV.val (Value.string { data := List.toArray s })]) = true,
   AV.val (Value.string { data := List.toArray s }) = AV.val (Value.string { data := List.toArray (strB [AV.val (Value.string { data := List.toArray s })]) }),
   strB [AV.val (Value.string { data := List.toArray s })] ≠ [(46 : UInt8)],
   List.length (strB [AV.val (Value.string { data := List.toArray s })]) ≤ (900000 : Nat),
   parO (strB [AV.val (Value.string { data := List.toArray s })]) = true,
   (AV.view (1 : Nat) (List.length a) fun i => [AV.val (Value.string { data := List.toArray (List.getD a i []) })]) = AV.view (1 : Nat) (List.length (lsOf (AV.view (1 : Nat) (List.length a) fun i => [AV.val (Value.string { data := List.toArray (List.getD a i []) })]))) fun i => [AV.val (Value.string { data := List.toArray (List.getD (lsOf (AV.view (1 : Nat) (List.length a) fun i => [AV.val (Value.string { data := List.toArray (List.getD a i []) })])) i []) })],
   lsK (lsOf (AV.view (1 : Nat) (List.length a) fun i => [AV.val (Value.string { data := List.toArray (List.getD a i []) })])),
   (AV.view (1 : Nat) (List.length a) fun i => [AV.val (Value.string { data := List.toArray (List.getD a i []) })]) = AV.view (1 : Nat) (List.length (lsOf (AV.view (1 : Nat) (List.length a) fun i => [AV.val (Value.string { data := List.toArray (List.getD a i []) })]))) fun i => [AV.val (Value.string { data := List.toArray (List.getD (lsOf (AV.view (1 : Nat) (List.length a) fun i => [AV.val (Value.string { data := List.toArray (List.getD a i []) })])) i []) })],
   lsT (lsOf (AV.view (1 : Nat) (List.length a) fun i => [AV.val (Value.string { data := List.toArray (List.getD a i []) })])),
   (ByteArray.toList { data := List.toArray (textN (lsOf (AV.view (1 : Nat) (List.length a) fun i => [AV.val (Value.string { data := List.toArray (List.getD a i []) })]))) } == ByteArray.toList { data := List.toArray (textN (lsOf (AV.view (1 : Nat) (List.length a) fun i => [AV.val (Value.string { data := List.toArray (List.getD a i []) })]))) }) = true,
   (ByteArray.toList { data := List.toArray (textN (lsOf (AV.view (1 : Nat) (List.length a) fun i => [AV.val (Value.string { data := List.toArray (List.getD a i []) })]))) } == ByteArray.toList { data := List.toArray (textN (lsOf (AV.view (1 : Nat) (List.length a) fun i => [AV.val (Value.string { data := List.toArray (List.getD a i []) })]))) }) = true,
   (ByteArray.toList { data := List.toArray (textN (lsOf (AV.view (1 : Nat) (List.length a) fun i => [AV.val (Value.string { data := List.toArray (List.getD a i []) })]))) } == ByteArray.toList { data := List.toArray (textN (lsOf (AV.view (1 : Nat) (List.length a) fun i => [AV.val (Value.string { data := List.toArray (List.getD a i []) })]))) }) = true,
   (AV.view (1 : Nat) (List.length a) fun i => [AV.val (Value.string { data := List.toArray (List.getD a i []) })]) = AV.view (1 : Nat) (List.length (lsOf (AV.view (1 : Nat) (List.length a) fun i => [AV.val (Value.string { data := List.toArray (List.getD a i []) })]))) fun i => [AV.val (Value.string { data := List.toArray (List.getD (lsOf (AV.view (1 : Nat) (List.length a) fun i => [AV.val (Value.string { data := List.toArray (List.getD a i []) })])) i []) })],
   (AV.view (1 : Nat) (List.length b) fun i => [AV.val (Value.string { data := List.toArray (List.getD b i []) })]) = AV.view (1 : Nat) (List.length (lsOf (AV.view (1 : Nat) (List.length b) fun i => [AV.val (Value.string { data := List.toArray (List.getD b i []) })]))) fun i => [AV.val (Value.string { data := List.toArray (List.getD (lsOf (AV.view (1 : Nat) (List.length b) fun i => [AV.val (Value.string { data := List.toArray (List.getD b i []) })])) i []) })],
   lsK (lsOf (AV.view (1 : Nat) (List.length a) fun i => [AV.val (Value.string { data := List.toArray (List.getD a i []) })])),
   (ByteArray.toList { data := List.toArray (textN (lsOf (AV.view (1 : Nat) (List.length a) fun i => [AV.val (Value.string { data := List.toArray (List.getD a i []) })]))) } == ByteArray.toList { data := List.toArray (textN (lsOf (AV.view (1 : Nat) (List.length a) fun i => [AV.val (Value.string { data := List.toArray (List.getD a i []) })]))) }) = true,
   (ByteArray.toList { data := List.toArray (textN (lsOf (AV.view (1 : Nat) (List.length a) fun i => [AV.val (Value.string { data := List.toArray (List.getD a i []) })]))) } == ByteArray.toList { data := List.toArray (textN (lsOf (AV.view (1 : Nat) (List.length a) fun i => [AV.val (Value.string { data := List.toArray (List.getD a i []) })]))) }) = true,
   (ByteArray.toList { data := List.toArray (textN (lsOf (AV.view (1 : Nat) (List.length a) fun i => [AV.val (Value.string { data := List.toArray (List.getD a i []) })]))) } == ByteArray.toList { data := List.toArray (textN (lsOf (AV.view (1 : Nat) (List.length a) fun i => [AV.val (Value.string { data := List.toArray (List.getD a i []) })]))) }) = true,
   (AV.view (1 : Nat) (List.length a) fun i => [AV.val (Value.string { data := List.toArray (List.getD a i []) })]) = AV.view (1 : Nat) (List.length (lsOf (AV.view (1 : Nat) (List.length a) fun i => [AV.val (Value.string { data := List.toArray (List.getD a i []) })]))) fun i => [AV.val (Value.string { data := List.toArray (List.getD (lsOf (AV.view (1 : Nat) (List.length a) fun i => [AV.val (Value.string { data := List.toArray (List.getD a i []) })])) i []) })],
   (AV.view (1 : Nat) (List.length b) fun i => [AV.val (Value.string { data := List.toArray (List.getD b i []) })]) = AV.view (1 : Nat) (List.length (lsOf (AV.view (1 : Nat) (List.length b) fun i => [AV.val (Value.string { data := List.toArray (List.getD b i []) })]))) fun i => [AV.val (Value.string { data := List.toArray (List.getD (lsOf (AV.view (1 : Nat) (List.length b) fun i => [AV.val (Value.string { data := List.toArray (List.getD b i []) })])) i []) })],
   lsK (lsOf (AV.view (1 : Nat) (List.length a) fun i => [AV.val (Value.string { data := List.toArray (List.getD a i []) })])),
   (ByteArray.toList { data := List.toArray (textN (lsOf (AV.view (1 : Nat) (List.length a) fun i => [AV.val (Value.string { data := List.toArray (List.getD a i []) })]))) } == ByteArray.toList { data := List.toArray (textN (lsOf (AV.view (1 : Nat) (List.length a) fun i => [AV.val (Value.string { data := List.toArray (List.getD a i []) })]))) }) = true,
   (ByteArray.toList { data := List.toArray (textN (lsOf (AV.view (1 : Nat) (List.length a) fun i => [AV.val (Value.string { data := List.toArray (List.getD a i []) })]))) } == ByteArray.toList { data := List.toArray (textN (lsOf (AV.view (1 : Nat) (List.length a) fun i => [AV.val (Value.string { data := List.toArray (List.getD a i []) })]))) }) = true,
   (sameN (lsOf (AV.view (1 : Nat) (List.length a) fun i => [AV.val (Value.string { data := List.toArray (List.getD a i []) })])) (lsOf (AV.view (1 : Nat) (List.length b) fun i => [AV.val (Value.string { data := List.toArray (List.getD b i []) })])) == sameN (lsOf (AV.view (1 : Nat) (List.length a) fun i => [AV.val (Value.string { data := List.toArray (List.getD a i []) })])) (lsOf (AV.view (1 : Nat) (List.length b) fun i => [AV.val (Value.string { data := List.toArray (List.getD b i []) })]))) = true,
   (sameN (lsOf (AV.view (1 : Nat) (List.length a) fun i => [AV.val (Value.string { data := List.toArray (List.getD a i []) })])) (lsOf (AV.view (1 : Nat) (List.length b) fun i => [AV.val (Value.string { data := List.toArray (List.getD b i []) })])) == sameN (lsOf (AV.view (1 : Nat) (List.length a) fun i => [AV.val (Value.string { data := List.toArray (List.getD a i []) })])) (lsOf (AV.view (1 : Nat) (List.length b) fun i => [AV.val (Value.string { data := List.toArray (List.getD b i []) })]))) = true,
   (sameN (lsOf (AV.view (1 : Nat) (List.length a) fun i => [AV.val (Value.string { data := List.toArray (List.getD a i []) })])) (lsOf (AV.view (1 : Nat) (List.length b) fun i => [AV.val (Value.string { data := List.toArray (List.getD b i []) })])) == sameN (lsOf (AV.view (1 : Nat) (List.length a) fun i => [AV.val (Value.string { data := List.toArray (List.getD a i []) })])) (lsOf (AV.view (1 : Nat) (List.length b) fun i => [AV.val (Value.string { data := List.toArray (List.getD b i []) })]))) = true,
   (sameN (lsOf (AV.view (1 : Nat) (List.length a) fun i => [AV.val (Value.string { data := List.toArray (List.getD a i []) })])) (lsOf (AV.view (1 : Nat) (List.length b) fun i => [AV.val (Value.string { data := List.toArray (List.getD b i []) })])) == sameN (lsOf (AV.view (1 : Nat) (List.length a) fun i => [AV.val (Value.string { data := List.toArray (List.getD a i []) })])) (lsOf (AV.view (1 : Nat) (List.length b) fun i => [AV.val (Value.string { data := List.toArray (List.getD b i []) })]))) = true,
   (sameN (lsOf (AV.view (1 : Nat) (List.length a) fun i => [AV.val (Value.string { data := List.toArray (List.getD a i []) })])) (lsOf (AV.view (1 : Nat) (List.length b) fun i => [AV.val (Value.string { data := List.toArray (List.getD b i []) })])) == sameN (lsOf (AV.view (1 : Nat) (List.length a) fun i => [AV.val (Value.string { data := List.toArray (List.getD a i []) })])) (lsOf (AV.view (1 : Nat) (List.length b) fun i => [AV.val (Value.string { data := List.toArray (List.getD b i []) })]))) = true,
   txtP (List.take (List.length (labL (strB [AV.val (Value.string { data := List.toArray s })]))) (rowsL (labL (strB [AV.val (Value.string { data := List.toArray s })])))) ∧ (1 : Nat) = (1 : Nat) ∧ (0 : Nat) + List.length (labL (strB [AV.val (Value.string { data := List.toArray s })])) ≤ List.length (rowsL (labL (strB [AV.val (Value.string { data := List.toArray s })]))),
   txtP (List.take (List.length (labL (strB [AV.val (Value.string { data := List.toArray s })]))) (rowsL (labL (strB [AV.val (Value.string { data := List.toArray s })])))) ∧ (1 : Nat) = (1 : Nat) ∧ (0 : Nat) + List.length (labL (strB [AV.val (Value.string { data := List.toArray s })])) ≤ List.length (rowsL (labL (strB [AV.val (Value.string { data := List.toArray s })]))),
   List.length (txtL (List.take (List.length (labL (strB [AV.val (Value.string { data := List.toArray s })]))) (rowsL (labL (strB [AV.val (Value.string { data := List.toArray s })]))))) ≤ (1000000000 : Nat)]) := by kernel_rfl
end Go.Proofs.Ytmilcpejchjleaa

/- A name's text, a text's name, whether two are alike: the law NameTexts answers true. -/
namespace Go.Proofs.Ytmilcpejchjleaa
open Go.RowKit
set_option linter.unusedSimpArgs false

theorem lsT_of {ls : List (List UInt8)} (h : longN ls = false) : lsT ls := by
  obtain ⟨h1, h2⟩ := longN_k h
  refine ⟨by omega, fun i => ?_⟩
  rw [List.getD_eq_getElem?_getD]
  by_cases hi : i < ls.length
  · rw [List.getElem?_eq_getElem hi, Option.getD_some]
    have := h2 _ (List.getElem_mem hi)
    omega
  · rw [List.getElem?_eq_none (by omega)]
    simp

theorem nameTexts_walk' (a b : List (List UInt8)) (s : List UInt8) : ∃ L' nx', ACall Try.prog 13 [vS a, vS b, sStr s] [] 0 (.val (.bool true)) L' nx' := by
  have ea := lsOf_vS a
  have eb := lsOf_vS b
  unfold vS sStr at ea eb
  have e1 : strB [AV.val (Value.string { data := List.toArray s })] = s := strB_s s
  cases hla : longN a with
  | true =>
    refine ⟨_, _, outXS_ok (kT20_ok 0) (nt20_long1 a b s) ?_⟩
    simp only [ea, eb]
    repeat' (first | exact allNil | refine allCons ?_ ?_ | (with_reducible refine allRp _ ?_ ?_))
    all_goals first | exact hla | exact True.intro | (with_reducible rfl)
  | false =>
  cases hlb : longN b with
  | true =>
    refine ⟨_, _, outXS_ok (kT20_ok 0) (nt20_long2 a b s) ?_⟩
    simp only [ea, eb]
    repeat' (first | exact allNil | refine allCons ?_ ?_ | (with_reducible refine allRp _ ?_ ?_))
    all_goals first | exact hla | exact hlb | exact True.intro | (with_reducible rfl)
  | false =>
  by_cases hs : s.length > 1500
  · refine ⟨_, _, outXS_ok (kT20_ok 0) (nt20_long3 a b s) ?_⟩
    simp only [ea, eb]
    repeat' (first | exact allNil | refine allCons ?_ ?_ | (with_reducible refine allRp _ ?_ ?_))
    all_goals first | exact hla | exact hlb | exact decide_eq_true (by omega) | exact True.intro | (with_reducible rfl)
  have hka := lsK_of hla
  have hkb := lsK_of hlb
  have hta := lsT_of hla
  have hs0 : decide ((s.length : Int) > (1500 : Int)) = false := decide_eq_false (by omega)
  by_cases hr : s = [46]
  · refine ⟨_, _, outXS_ok (kT20_ok 0) (nt20_root a b s) ?_⟩
    simp only [ea, eb, e1]
    repeat' (first | exact allNil | refine allCons ?_ ?_ | (with_reducible refine allRp _ ?_ ?_))
    all_goals first | exact hla | exact hlb | exact hs0 | exact hka | exact hkb | exact hta | exact hr | exact True.intro | (with_reducible rfl) | omega | (simp; done)
  cases hp : parO s with
  | false =>
    refine ⟨_, _, outXS_ok (kT20_ok 1) (nt20_bad a b s) ?_⟩
    simp only [ea, eb, e1]
    repeat' (first | exact allNil | refine allCons ?_ ?_ | (with_reducible refine allRp _ ?_ ?_))
    all_goals first | exact hla | exact hlb | exact hs0 | exact hka | exact hkb | exact hta | exact hr | exact hp | exact True.intro | (with_reducible rfl) | omega | (simp; done)
  | true =>
    have hk := labL_k s (by omega)
    have hk1 := hk.1
    have htp := txtP_take (labL s)
    have h := outXS_ok (kT20_ok 2) (nt20_ok a b s) (by
      simp only [ea, eb, e1, txtL_take]
      repeat' (first | exact allNil | refine allCons ?_ ?_ | (with_reducible refine allRp _ ?_ ?_))
      all_goals first | exact hla | exact hlb | exact hs0 | exact hka | exact hkb | exact hta | exact hr | exact hp | exact htp | exact ⟨htp.1, True.intro, htp.2.2⟩ | exact True.intro | (with_reducible rfl) | omega | (simp; done))
    simp only [ea, eb, e1, txtL_take, decide_true] at h
    exact ⟨_, _, h⟩

theorem nameTexts_walk (a b : List (List UInt8)) (s : ByteArray) : ∃ L' nx', ACall Try.prog 13 [vS a, vS b, .val (.string s)] [] 0 (.val (.bool true)) L' nx' := by
  have h := nameTexts_walk' a b s.data.toList
  have e : sStr s.data.toList = .val (.string s) := by rw [sStr, Array.toArray_toList]
  rw [e] at h
  exact h
end Go.Proofs.Ytmilcpejchjleaa
