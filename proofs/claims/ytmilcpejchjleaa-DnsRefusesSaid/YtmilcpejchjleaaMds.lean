/- Several texts in one: DsRun, Ds. -/
import Derived.Test.YtmilcpejchjleaaDt0
import Derived.Test.YtmilcpejchjleaaMdq
import Derived.Test.YtmilcpejchjleaaRp
import Derived.Test.YtmilcpejchjleaaMez
import Derived.Test.YtmilcpejchjleaaFx

/- The law DnsBack reckoned on its ways. -/
namespace Go.Proofs.Ytmilcpejchjleaa
open Go.RowKit

set_option maxRecDepth 100000 in
theorem db_big (b : List UInt8) : outXS kV2 [(22, { br := [(13, true)] })] Try.prog 22 [AV.bytes b] [] 0 [] [] = some (AV.val (Value.bool true), [], 7, (decide ((↑(List.length b) : Int) > (1600 : Int)) = true) :: []) := by kernel_rfl

set_option maxRecDepth 100000 in
theorem db_err (b : List UInt8) (e : Int) : outXS kV2 [(22, { op := [(5, 3, Hn.call [Co1.c (Co0.bytes b)] [8] [] (AV.tup [AV.agg [iI (0 : Int), iI (0 : Int), nilS, nilS, nilS, nilS], iI e]) [] 4000)], br := [(13, false), (22, true)], ob := [(5, 2)] })] Try.prog 22 [AV.bytes b] [] 0 [] [] = some (AV.val (Value.bool true), [], 4019, (decide ((↑(List.length b) : Int) > (1600 : Int)) = false) ::
   (True) ::
   (0 = 0 ∧ 0 + List.length b ≤ 1000000000) ::
   (0 + (0 + List.length b) ≤ List.length b) ::
   (List.take (0 + List.length b) b = b) ::
   (ACall Try.prog 57 [AV.bytes b] [] 16 (AV.tup [AV.agg [AV.val (Value.int IntKind.i64 (0 : Int)), AV.val (Value.int IntKind.i64 (0 : Int)), AV.val (Value.slice none 0 0), AV.val (Value.slice none 0 0), AV.val (Value.slice none 0 0), AV.val (Value.slice none 0 0)], AV.val (Value.int IntKind.i64 e)]) [] 4016) ::
   ((e != (0 : Int)) = true) :: []) := by kernel_rfl

set_option maxRecDepth 100000 in
theorem db_lim (b : List UInt8) (id : Int) (fl : Int) (qs : List DQ) (a : List DR) (o : List DR) (m : List DR) : outXS kV1 [(22, { op := [(5, 3, Hn.call [Co1.c (Co0.bytes b)] [8] [] (AV.tup [msgA id fl qs a o m, iI (0 : Int)]) [] 4000)], br := [(13, false)], ob := [(5, 2)] })] Try.prog 22 [AV.bytes b] [] 0 [] [] = some (AV.val (Value.bool true), [], 4030, (decide ((↑(List.length b) : Int) > (1600 : Int)) = false) ::
   (True) ::
   (0 = 0 ∧ 0 + List.length b ≤ 1000000000) ::
   (0 + (0 + List.length b) ≤ List.length b) ::
   (List.take (0 + List.length b) b = b) ::
   (ACall Try.prog 57 [AV.bytes b] [] 16 (AV.tup [AV.agg [AV.val (Value.int IntKind.i64 id), AV.val (Value.int IntKind.i64 fl), vQ qs, vR a, vR o, vR m], AV.val (Value.int IntKind.i64 (0 : Int))]) [] 4016) ::
   ((vQ qs) = vQ (ofVQ (vQ qs))) ::
   ((vR a) = vR (ofVR (vR a))) ::
   ((vR o) = vR (ofVR (vR o))) ::
   ((vR m) = vR (ofVR (vR m))) ::
   (msgK (ofVQ (vQ qs)) (ofVR (vR a)) (ofVR (vR o)) (ofVR (vR m))) ::
   (gdM id fl (ofVQ (vQ qs)) (ofVR (vR a)) (ofVR (vR o)) (ofVR (vR m)) = true) ::
   (1472 < List.length (bytM id fl (ofVQ (vQ qs)) (ofVR (vR a)) (ofVR (vR o)) (ofVR (vR m)))) :: []) := by kernel_rfl

set_option maxRecDepth 100000 in
theorem db_ok (b : List UInt8) (id : Int) (fl : Int) (qs : List DQ) (a : List DR) (o : List DR) (m : List DR) (c : List UInt8) : outXS kV2 [(22, { op := [(5, 3, Hn.call [Co1.c (Co0.bytes b)] [8] [] (AV.tup [msgA id fl qs a o m, iI (0 : Int)]) [] 4000), (11, 1, Hn.call [Co1.c (Co0.bytes c)] [] [] (AV.tup [msgA id fl qs a o m, iI (0 : Int)]) [] 4000)], br := [(13, false)], ob := [(5, 2)] })] Try.prog 22 [AV.bytes b] [] 0 [] [] = some (AV.val (Value.bool true), [], 8085, (decide ((↑(List.length b) : Int) > (1600 : Int)) = false) ::
   (True) ::
   (0 = 0 ∧ 0 + List.length b ≤ 1000000000) ::
   (0 + (0 + List.length b) ≤ List.length b) ::
   (List.take (0 + List.length b) b = b) ::
   (ACall Try.prog 57 [AV.bytes b] [] 16 (AV.tup [AV.agg [AV.val (Value.int IntKind.i64 id), AV.val (Value.int IntKind.i64 fl), vQ qs, vR a, vR o, vR m], AV.val (Value.int IntKind.i64 (0 : Int))]) [] 4016) ::
   ((vQ qs) = vQ (ofVQ (vQ qs))) ::
   ((vR a) = vR (ofVR (vR a))) ::
   ((vR o) = vR (ofVR (vR o))) ::
   ((vR m) = vR (ofVR (vR m))) ::
   (msgK (ofVQ (vQ qs)) (ofVR (vR a)) (ofVR (vR o)) (ofVR (vR m))) ::
   (gdM id fl (ofVQ (vQ qs)) (ofVR (vR a)) (ofVR (vR o)) (ofVR (vR m)) = true) ::
   (List.length (bytM id fl (ofVQ (vQ qs)) (ofVR (vR a)) (ofVR (vR o)) (ofVR (vR m))) ≤ 1472) ::
   (True) ::
   (bytM id fl (ofVQ (vQ qs)) (ofVR (vR a)) (ofVR (vR o)) (ofVR (vR m)) = c) ::
   (ACall Try.prog 57 [AV.bytes c] [] 4035 (AV.tup [AV.agg [AV.val (Value.int IntKind.i64 id), AV.val (Value.int IntKind.i64 fl), vQ qs, vR a, vR o, vR m], AV.val (Value.int IntKind.i64 (0 : Int))]) [] 8035) ::
   ((vQ qs) = vQ (ofVQ (vQ qs))) ::
   (ls5 (ofVQ (vQ qs))) ::
   ((vR a) = vR (ofVR (vR a))) ::
   (ls5 (ofVR (vR a))) ::
   ((vR o) = vR (ofVR (vR o))) ::
   (ls5 (ofVR (vR o))) ::
   ((vR m) = vR (ofVR (vR m))) ::
   (ls5 (ofVR (vR m))) ::
   ((vQ qs) = vQ (ofVQ (vQ qs))) ::
   (ls5 (ofVQ (vQ qs))) ::
   ((vR a) = vR (ofVR (vR a))) ::
   (ls5 (ofVR (vR a))) ::
   ((vR o) = vR (ofVR (vR o))) ::
   (ls5 (ofVR (vR o))) ::
   ((vR m) = vR (ofVR (vR m))) ::
   (ls5 (ofVR (vR m))) ::
   (id = id) ::
   (fl = fl) ::
   ((vQ (ofVQ (vQ qs))) = vQ (ofVQ (vQ (ofVQ (vQ qs))))) ::
   ((vR (ofVR (vR a))) = vR (ofVR (vR (ofVR (vR a))))) ::
   ((vR (ofVR (vR o))) = vR (ofVR (vR (ofVR (vR o))))) ::
   ((vR (ofVR (vR m))) = vR (ofVR (vR (ofVR (vR m))))) ::
   ((vQ (ofVQ (vQ qs))) = vQ (ofVQ (vQ (ofVQ (vQ qs))))) ::
   ((vR (ofVR (vR a))) = vR (ofVR (vR (ofVR (vR a))))) ::
   ((vR (ofVR (vR o))) = vR (ofVR (vR (ofVR (vR o))))) ::
   ((vR (ofVR (vR m))) = vR (ofVR (vR (ofVR (vR m))))) ::
   (ofVQ (vQ (ofVQ (vQ qs))) = ofVQ (vQ (ofVQ (vQ qs)))) ::
   (ofVR (vR (ofVR (vR a))) = ofVR (vR (ofVR (vR a)))) ::
   (ofVR (vR (ofVR (vR o))) = ofVR (vR (ofVR (vR o)))) ::
   (ofVR (vR (ofVR (vR m))) = ofVR (vR (ofVR (vR m)))) ::
   (qT (ofVQ (vQ (ofVQ (vQ qs))))) ::
   (rT (ofVR (vR (ofVR (vR a))))) ::
   (rT (ofVR (vR (ofVR (vR o))))) ::
   (rT (ofVR (vR (ofVR (vR m))))) :: []) := by kernel_rfl

set_option maxRecDepth 100000 in
theorem dr_great (id : Int) (fl : Int) (qs : List DQ) (a : List DR) (o : List DR) (m : List DR) (code : Int) : outXS kV0 [(23, { br := [(15, true)] })] Try.prog 23 [AV.agg [AV.val (Value.int IntKind.i64 id), AV.val (Value.int IntKind.i64 fl), vQ qs, vR a, vR o, vR m], AV.val (Value.int IntKind.i64 code)] [] 0 [] [] = some (AV.val (Value.bool true), [], 7, ((vQ qs) = vQ (ofVQ (vQ qs))) ::
   ((vR a) = vR (ofVR (vR a))) ::
   ((vR o) = vR (ofVR (vR o))) ::
   ((vR m) = vR (ofVR (vR m))) ::
   (grN (ofVQ (vQ qs)) (ofVR (vR a)) (ofVR (vR o)) (ofVR (vR m)) = true) :: []) := by kernel_rfl

set_option maxRecDepth 100000 in
theorem dr_bad (id : Int) (fl : Int) (qs : List DQ) (a : List DR) (o : List DR) (m : List DR) (code : Int) : outXS kV0 [(23, { op := [(7, 10, .br false), (7, 36, .br false), (7, 41, .br false), (7, 50, .br false)], gd := [(7, 6, false), (7, 7, false), (7, 8, false), (7, 9, false), (7, 30, false), (7, 31, false), (7, 32, false), (7, 33, false), (7, 34, false), (7, 35, false), (7, 38, false), (7, 39, false), (7, 40, false), (7, 43, false), (7, 44, false), (7, 45, false), (7, 46, false), (7, 47, false), (7, 48, false), (7, 49, false)], br := [(15, false), (74, false)] })] Try.prog 23 [AV.agg [AV.val (Value.int IntKind.i64 id), AV.val (Value.int IntKind.i64 fl), vQ qs, vR a, vR o, vR m], AV.val (Value.int IntKind.i64 code)] [] 0 [] [] = some (AV.val (Value.bool true), [], 89, ((vQ qs) = vQ (ofVQ (vQ qs))) ::
   ((vR a) = vR (ofVR (vR a))) ::
   ((vR o) = vR (ofVR (vR o))) ::
   ((vR m) = vR (ofVR (vR m))) ::
   (grN (ofVQ (vQ qs)) (ofVR (vR a)) (ofVR (vR o)) (ofVR (vR m)) = false) ::
   ((vQ qs) = vQ (ofVQ (vQ qs))) ::
   ((vR a) = vR (ofVR (vR a))) ::
   ((vR o) = vR (ofVR (vR o))) ::
   ((vR m) = vR (ofVR (vR m))) ::
   (msgK (ofVQ (vQ qs)) (ofVR (vR a)) (ofVR (vR o)) (ofVR (vR m))) ::
   (gdM id fl (ofVQ (vQ qs)) (ofVR (vR a)) (ofVR (vR o)) (ofVR (vR m)) = false) ::
   ((vQ qs) = vQ (ofVQ (vQ qs))) ::
   (qK (ofVQ (vQ qs))) :: rp 5 ((id != id) = false) ( rp 7 ((bits BinOp.and IntKind.i64 (bits BinOp.or IntKind.i64 (bits BinOp.or IntKind.i64 (bits BinOp.or IntKind.i64 (32768 : Int) (bits BinOp.and IntKind.i64 fl (30976 : Int))) (128 : Int)) (bits BinOp.and IntKind.i64 code (15 : Int))) (32768 : Int) == (0 : Int)) = false) ( rp 4 ((bits BinOp.and IntKind.i64 (bits BinOp.or IntKind.i64 (bits BinOp.or IntKind.i64 (bits BinOp.or IntKind.i64 (32768 : Int) (bits BinOp.and IntKind.i64 fl (30976 : Int))) (128 : Int)) (bits BinOp.and IntKind.i64 code (15 : Int))) (15 : Int) != bits BinOp.and IntKind.i64 code (15 : Int)) = false) ( rp 8 (decide (bits BinOp.or IntKind.i64 (bits BinOp.or IntKind.i64 (bits BinOp.or IntKind.i64 (32768 : Int) (bits BinOp.and IntKind.i64 fl (30976 : Int))) (128 : Int)) (bits BinOp.and IntKind.i64 code (15 : Int)) > (65535 : Int)) = false) ( (((↑(List.length (ofVQ (vQ qs))) : Int) != (↑(List.length qs) : Int)) = false) :: []))))) := by kernel_rfl

set_option maxRecDepth 100000 in
theorem dr_big (id : Int) (fl : Int) (qs : List DQ) (a : List DR) (o : List DR) (m : List DR) (code : Int) : outXS kV1 [(23, { op := [(7, 10, .br false), (7, 36, .br false), (7, 41, .br false), (7, 50, .br false)], gd := [(7, 6, false), (7, 7, false), (7, 8, false), (7, 9, false), (7, 30, false), (7, 31, false), (7, 32, false), (7, 33, false), (7, 34, false), (7, 35, false), (7, 38, false), (7, 39, false), (7, 40, false), (7, 43, false), (7, 44, false), (7, 45, false), (7, 46, false), (7, 47, false), (7, 48, false), (7, 49, false)], br := [(15, false), (74, false)] })] Try.prog 23 [AV.agg [AV.val (Value.int IntKind.i64 id), AV.val (Value.int IntKind.i64 fl), vQ qs, vR a, vR o, vR m], AV.val (Value.int IntKind.i64 code)] [] 0 [] [] = some (AV.val (Value.bool true), [], 89, ((vQ qs) = vQ (ofVQ (vQ qs))) ::
   ((vR a) = vR (ofVR (vR a))) ::
   ((vR o) = vR (ofVR (vR o))) ::
   ((vR m) = vR (ofVR (vR m))) ::
   (grN (ofVQ (vQ qs)) (ofVR (vR a)) (ofVR (vR o)) (ofVR (vR m)) = false) ::
   ((vQ qs) = vQ (ofVQ (vQ qs))) ::
   ((vR a) = vR (ofVR (vR a))) ::
   ((vR o) = vR (ofVR (vR o))) ::
   ((vR m) = vR (ofVR (vR m))) ::
   (msgK (ofVQ (vQ qs)) (ofVR (vR a)) (ofVR (vR o)) (ofVR (vR m))) ::
   (gdM id fl (ofVQ (vQ qs)) (ofVR (vR a)) (ofVR (vR o)) (ofVR (vR m)) = true) ::
   (1472 < List.length (bytM id fl (ofVQ (vQ qs)) (ofVR (vR a)) (ofVR (vR o)) (ofVR (vR m)))) ::
   ((vQ qs) = vQ (ofVQ (vQ qs))) ::
   (qK (ofVQ (vQ qs))) :: rp 5 ((id != id) = false) ( rp 7 ((bits BinOp.and IntKind.i64 (bits BinOp.or IntKind.i64 (bits BinOp.or IntKind.i64 (bits BinOp.or IntKind.i64 (32768 : Int) (bits BinOp.and IntKind.i64 fl (30976 : Int))) (128 : Int)) (bits BinOp.and IntKind.i64 code (15 : Int))) (32768 : Int) == (0 : Int)) = false) ( rp 4 ((bits BinOp.and IntKind.i64 (bits BinOp.or IntKind.i64 (bits BinOp.or IntKind.i64 (bits BinOp.or IntKind.i64 (32768 : Int) (bits BinOp.and IntKind.i64 fl (30976 : Int))) (128 : Int)) (bits BinOp.and IntKind.i64 code (15 : Int))) (15 : Int) != bits BinOp.and IntKind.i64 code (15 : Int)) = false) ( rp 8 (decide (bits BinOp.or IntKind.i64 (bits BinOp.or IntKind.i64 (bits BinOp.or IntKind.i64 (32768 : Int) (bits BinOp.and IntKind.i64 fl (30976 : Int))) (128 : Int)) (bits BinOp.and IntKind.i64 code (15 : Int)) > (65535 : Int)) = false) ( (((↑(List.length (ofVQ (vQ qs))) : Int) != (↑(List.length qs) : Int)) = false) :: []))))) := by kernel_rfl

set_option maxRecDepth 100000 in
theorem dr_ok (id : Int) (fl : Int) (qs : List DQ) (a : List DR) (o : List DR) (m : List DR) (code : Int) (fl2 : Int) (c : List UInt8) : outXS kV2 [(23, { op := [(7, 10, .br false), (7, 36, .br false), (7, 41, .br false), (7, 50, .br false), (12, 1, Hn.call [Co1.c (Co0.bytes c)] [] [] (AV.tup [msgA id fl2 qs [] [] [], iI (0 : Int)]) [] 4000)], gd := [(7, 6, false), (7, 7, false), (7, 8, false), (7, 9, false), (7, 30, false), (7, 31, false), (7, 32, false), (7, 33, false), (7, 34, false), (7, 35, false), (7, 38, false), (7, 39, false), (7, 40, false), (7, 43, false), (7, 44, false), (7, 45, false), (7, 46, false), (7, 47, false), (7, 48, false), (7, 49, false)], br := [(15, false), (74, false)] })] Try.prog 23 [AV.agg [AV.val (Value.int IntKind.i64 id), AV.val (Value.int IntKind.i64 fl), vQ qs, vR a, vR o, vR m], AV.val (Value.int IntKind.i64 code)] [] 0 [] [] = some (AV.val (Value.bool true), [], 4157, ((vQ qs) = vQ (ofVQ (vQ qs))) ::
   ((vR a) = vR (ofVR (vR a))) ::
   ((vR o) = vR (ofVR (vR o))) ::
   ((vR m) = vR (ofVR (vR m))) ::
   (grN (ofVQ (vQ qs)) (ofVR (vR a)) (ofVR (vR o)) (ofVR (vR m)) = false) ::
   ((vQ qs) = vQ (ofVQ (vQ qs))) ::
   ((vR a) = vR (ofVR (vR a))) ::
   ((vR o) = vR (ofVR (vR o))) ::
   ((vR m) = vR (ofVR (vR m))) ::
   (msgK (ofVQ (vQ qs)) (ofVR (vR a)) (ofVR (vR o)) (ofVR (vR m))) ::
   (gdM id fl (ofVQ (vQ qs)) (ofVR (vR a)) (ofVR (vR o)) (ofVR (vR m)) = true) ::
   (List.length (bytM id fl (ofVQ (vQ qs)) (ofVR (vR a)) (ofVR (vR o)) (ofVR (vR m))) ≤ 1472) ::
   ((vQ qs) = vQ (ofVQ (vQ qs))) ::
   (qK (ofVQ (vQ qs))) :: rp 5 ((id != id) = false) ( rp 7 ((bits BinOp.and IntKind.i64 (bits BinOp.or IntKind.i64 (bits BinOp.or IntKind.i64 (bits BinOp.or IntKind.i64 (32768 : Int) (bits BinOp.and IntKind.i64 fl (30976 : Int))) (128 : Int)) (bits BinOp.and IntKind.i64 code (15 : Int))) (32768 : Int) == (0 : Int)) = false) ( rp 4 ((bits BinOp.and IntKind.i64 (bits BinOp.or IntKind.i64 (bits BinOp.or IntKind.i64 (bits BinOp.or IntKind.i64 (32768 : Int) (bits BinOp.and IntKind.i64 fl (30976 : Int))) (128 : Int)) (bits BinOp.and IntKind.i64 code (15 : Int))) (15 : Int) != bits BinOp.and IntKind.i64 code (15 : Int)) = false) ( rp 8 (decide (bits BinOp.or IntKind.i64 (bits BinOp.or IntKind.i64 (bits BinOp.or IntKind.i64 (32768 : Int) (bits BinOp.and IntKind.i64 fl (30976 : Int))) (128 : Int)) (bits BinOp.and IntKind.i64 code (15 : Int)) > (65535 : Int)) = false) ( (((↑(List.length (ofVQ (vQ qs))) : Int) != (↑(List.length qs) : Int)) = false) ::
   ((vQ (ofVQ (vQ qs))) = vQ (ofVQ (vQ (ofVQ (vQ qs))))) :: rp 3 (Value.slice none 0 0 = Value.slice none 0 0) ( (msgK (ofVQ (vQ (ofVQ (vQ qs)))) [] [] []) ::
   (gdM id (bits BinOp.or IntKind.i64 (bits BinOp.or IntKind.i64 (bits BinOp.or IntKind.i64 (32768 : Int) (bits BinOp.and IntKind.i64 fl (30976 : Int))) (128 : Int)) (bits BinOp.and IntKind.i64 code (15 : Int))) (ofVQ (vQ (ofVQ (vQ qs)))) [] [] [] = true) ::
   (List.length (bytM id (bits BinOp.or IntKind.i64 (bits BinOp.or IntKind.i64 (bits BinOp.or IntKind.i64 (32768 : Int) (bits BinOp.and IntKind.i64 fl (30976 : Int))) (128 : Int)) (bits BinOp.and IntKind.i64 code (15 : Int))) (ofVQ (vQ (ofVQ (vQ qs)))) [] [] []) ≤ 1472) ::
   (True) ::
   (bytM id (bits BinOp.or IntKind.i64 (bits BinOp.or IntKind.i64 (bits BinOp.or IntKind.i64 (32768 : Int) (bits BinOp.and IntKind.i64 fl (30976 : Int))) (128 : Int)) (bits BinOp.and IntKind.i64 code (15 : Int))) (ofVQ (vQ (ofVQ (vQ qs)))) [] [] [] = c) ::
   (ACall Try.prog 57 [AV.bytes c] [] 103 (AV.tup [AV.agg [AV.val (Value.int IntKind.i64 id), AV.val (Value.int IntKind.i64 fl2), vQ qs, vR [], vR [], vR []], AV.val (Value.int IntKind.i64 (0 : Int))]) [] 4103) ::
   ((vQ qs) = vQ (ofVQ (vQ qs))) ::
   (ls5 (ofVQ (vQ qs))) ::
   ((vR []) = vR []) ::
   (ls5 (ofVR (vR []))) ::
   ((vR []) = vR []) ::
   (ls5 (ofVR (vR []))) ::
   ((vR []) = vR []) ::
   (ls5 (ofVR (vR []))) ::
   ((vQ (ofVQ (vQ qs))) = vQ (ofVQ (vQ (ofVQ (vQ qs))))) ::
   (ls5 (ofVQ (vQ (ofVQ (vQ qs))))) ::
   (Value.slice none 0 0 = Value.slice none 0 0) ::
   (ls5 ([] : List DR)) ::
   (Value.slice none 0 0 = Value.slice none 0 0) ::
   (ls5 ([] : List DR)) ::
   (Value.slice none 0 0 = Value.slice none 0 0) ::
   (ls5 ([] : List DR)) ::
   (id = id) ::
   (fl2 = bits BinOp.or IntKind.i64 (bits BinOp.or IntKind.i64 (bits BinOp.or IntKind.i64 (32768 : Int) (bits BinOp.and IntKind.i64 fl (30976 : Int))) (128 : Int)) (bits BinOp.and IntKind.i64 code (15 : Int))) ::
   ((vQ (ofVQ (vQ qs))) = vQ (ofVQ (vQ (ofVQ (vQ qs))))) :: rp 3 ((vR []) = vR []) ( ((vQ (ofVQ (vQ (ofVQ (vQ qs))))) = vQ (ofVQ (vQ (ofVQ (vQ (ofVQ (vQ qs))))))) :: rp 3 ((vR []) = vR []) ( (ofVQ (vQ (ofVQ (vQ qs))) = ofVQ (vQ (ofVQ (vQ (ofVQ (vQ qs)))))) :: rp 3 (ofVR (vR []) = ofVR (vR [])) ( (qT (ofVQ (vQ (ofVQ (vQ qs))))) :: rp 3 (rT (ofVR (vR []))) ( [])))))))))) := by kernel_rfl
end Go.Proofs.Ytmilcpejchjleaa

/- The laws DnsBack and DnsRefuses, walked. -/
namespace Go.Proofs.Ytmilcpejchjleaa
open Go.RowKit
set_option linter.unusedSimpArgs false
set_option linter.unusedVariables false

/-! ### the flags of a refusal -/
def flR (fl code : Int) : Int := bits BinOp.or IntKind.i64 (bits BinOp.or IntKind.i64 (bits BinOp.or IntKind.i64 (32768 : Int) (bits BinOp.and IntKind.i64 fl (30976 : Int))) (128 : Int)) (bits BinOp.and IntKind.i64 code (15 : Int))
def flB (f c : BitVec 64) : BitVec 64 := 32768#64 ||| (f &&& 30976#64) ||| 128#64 ||| (c &&& 15#64)
theorem flR_eq (fl code : Int) : flR fl code = IntKind.wrap IntKind.i64 ((flB (BitVec.ofInt 64 fl) (BitVec.ofInt 64 code)).toNat : Int) := by
  unfold flR bits
  simp only []
  show IntKind.wrap IntKind.i64 ((BitVec.ofInt 64 (IntKind.wrap IntKind.i64 ((BitVec.ofInt 64 (IntKind.wrap IntKind.i64 ((BitVec.ofInt 64 32768 ||| BitVec.ofInt 64 (IntKind.wrap IntKind.i64 ((BitVec.ofInt 64 fl &&& BitVec.ofInt 64 30976).toNat : Int))).toNat : Int)) ||| BitVec.ofInt 64 128).toNat : Int)) ||| BitVec.ofInt 64 (IntKind.wrap IntKind.i64 ((BitVec.ofInt 64 code &&& BitVec.ofInt 64 15).toNat : Int))).toNat : Int) = _
  simp only [ofInt_wrap]
  rfl
theorem flB_lt (f c : BitVec 64) : (flB f c).toNat < 65536 := by
  unfold flB
  simp only [BitVec.toNat_or, BitVec.toNat_and, BitVec.toNat_ofNat]
  have h1 : f.toNat &&& 30976 % 2 ^ 64 ≤ 30976 := Nat.and_le_right
  have h2 : c.toNat &&& 15 % 2 ^ 64 ≤ 15 := Nat.and_le_right
  exact Nat.or_lt_two_pow (n := 16) (Nat.or_lt_two_pow (Nat.or_lt_two_pow (by decide) (by omega)) (by decide)) (by omega)
theorem flR_val (fl code : Int) : flR fl code = ((flB (BitVec.ofInt 64 fl) (BitVec.ofInt 64 code)).toNat : Int) := by
  have := flB_lt (BitVec.ofInt 64 fl) (BitVec.ofInt 64 code)
  rw [flR_eq, w64 _ (by omega)]
theorem flR_pair (fl code : Int) : pairB (flR fl code) = true := by
  have := flB_lt (BitVec.ofInt 64 fl) (BitVec.ofInt 64 code)
  rw [flR_val]
  unfold pairB
  rw [decide_eq_true (by omega), decide_eq_true (by omega)]; rfl
theorem flR_le (fl code : Int) : decide (flR fl code > (65535 : Int)) = false := by
  have := flB_lt (BitVec.ofInt 64 fl) (BitVec.ofInt 64 code)
  rw [flR_val]
  exact decide_eq_false (by omega)
theorem ofInt_toNat (v : BitVec 64) : BitVec.ofInt 64 ((v.toNat : Nat) : Int) = v := by
  apply BitVec.eq_of_toNat_eq
  have h := v.isLt
  rw [BitVec.toNat_ofInt]
  omega
theorem and_flR (fl code k : Int) : bits BinOp.and IntKind.i64 (flR fl code) k = IntKind.wrap IntKind.i64 ((flB (BitVec.ofInt 64 fl) (BitVec.ofInt 64 code) &&& BitVec.ofInt 64 k).toNat : Int) := by
  rw [flR_val]
  show IntKind.wrap IntKind.i64 ((BitVec.ofInt 64 ((flB (BitVec.ofInt 64 fl) (BitVec.ofInt 64 code)).toNat : Int) &&& BitVec.ofInt 64 k).toNat : Int) = _
  rw [ofInt_toNat]
theorem flR_ans (fl code : Int) : (bits BinOp.and IntKind.i64 (flR fl code) (32768 : Int) == (0 : Int)) = false := by
  rw [and_flR]
  generalize BitVec.ofInt 64 fl = f
  generalize BitVec.ofInt 64 code = c
  have e : (flB f c &&& BitVec.ofInt 64 32768).toNat = 32768 := by
    have h1 : flB f c &&& BitVec.ofInt 64 32768 = 32768#64 := by
      unfold flB
      rw [show BitVec.ofInt 64 32768 = 32768#64 from rfl, BitVec.and_or_distrib_right, BitVec.and_or_distrib_right, BitVec.and_or_distrib_right, BitVec.and_assoc, BitVec.and_assoc]
      rw [show (30976#64 &&& 32768#64) = 0#64 from by decide, show (128#64 &&& 32768#64) = 0#64 from by decide, show (15#64 &&& 32768#64) = 0#64 from by decide, show (32768#64 &&& 32768#64) = 32768#64 from by decide]
      simp
    rw [h1]; rfl
  rw [e]
  rfl
theorem flR_code (fl code : Int) : (bits BinOp.and IntKind.i64 (flR fl code) (15 : Int) != bits BinOp.and IntKind.i64 code (15 : Int)) = false := by
  rw [and_flR]
  have h1 : flB (BitVec.ofInt 64 fl) (BitVec.ofInt 64 code) &&& BitVec.ofInt 64 15 = BitVec.ofInt 64 code &&& BitVec.ofInt 64 15 := by
    generalize BitVec.ofInt 64 fl = f
    generalize BitVec.ofInt 64 code = c
    unfold flB
    rw [show BitVec.ofInt 64 15 = 15#64 from rfl, BitVec.and_or_distrib_right, BitVec.and_or_distrib_right, BitVec.and_or_distrib_right, BitVec.and_assoc, BitVec.and_assoc]
    rw [show (30976#64 &&& 15#64) = 0#64 from by decide, show (128#64 &&& 15#64) = 0#64 from by decide, show (15#64 &&& 15#64) = 15#64 from by decide, show (32768#64 &&& 15#64) = 0#64 from by decide]
    simp
  rw [h1]
  exact bne_self _

/-! ### what may be written -/
section
variable {id fl : Int} {qs : List DQ} {a o m : List DR}
theorem name_q {x : DQ} (h : qOk x = true) : goodN x.name = true := by
  unfold qOk at h
  simp only [Bool.and_eq_true] at h
  exact h.2
theorem name_r {x : DR} (h : rOk x = true) : goodN x.name = true ∧ x.data.length ≤ 65535 := by
  unfold rOk at h
  simp only [Bool.and_eq_true, decide_eq_true_eq] at h
  exact ⟨h.1.2, h.2⟩
theorem goodN_lsT {ls : List (List UInt8)} (h : goodN ls = true) : lsT ls := by
  have h1 := goodF_enc 1 ls h (by decide)
  have h2 := goodF_count 1 ls h
  refine ⟨?_, fun i => ?_⟩
  · rcases h2 with h2 | rfl
    · omega
    · exact Nat.zero_le _
  · by_cases hi : i < ls.length
    · rw [List.getD_eq_getElem?_getD, List.getElem?_eq_getElem hi]
      have := h1.2 _ (List.getElem_mem hi)
      simp only [Option.getD_some]
      omega
    · rw [List.getD_eq_getElem?_getD, List.getElem?_eq_none (by omega)]
      exact Nat.zero_le _
theorem qs_all (h : ∀ x ∈ qs, qOk x = true) (i : Nat) : goodN (qs.getD i dq0).name = true := by
  by_cases hi : i < qs.length
  · rw [getQ hi]; exact name_q (h _ (List.getElem_mem hi))
  · rw [List.getD_eq_getElem?_getD, List.getElem?_eq_none (by omega)]; rfl
theorem rs_all (h : ∀ x ∈ a, rGd x) (i : Nat) : goodN (a.getD i dr0).name = true ∧ (a.getD i dr0).data.length ≤ 65535 ∧ 0 ≤ (a.getD i dr0).ttl ∧ (a.getD i dr0).ttl ≤ 4294967295 := by
  by_cases hi : i < a.length
  · rw [getR hi]
    have := h _ (List.getElem_mem hi)
    exact ⟨(name_r this.1).1, (name_r this.1).2, this.2.1⟩
  · rw [List.getD_eq_getElem?_getD, List.getElem?_eq_none (by omega)]
    exact ⟨rfl, Nat.zero_le _, by decide, by decide⟩
theorem rs_facts (h : ∀ x ∈ a, rGd x) (hn : a.length ≤ 64) : rK a ∧ ttlK a ∧ rT a ∧ ls5 a :=
  ⟨⟨by omega, fun i => ⟨goodN_lsK (rs_all h i).1, by have := (rs_all h i).2.1; omega⟩⟩, fun i => (rs_all h i).2.2, ⟨by omega, fun i => goodN_lsT (rs_all h i).1⟩, by unfold ls5; omega⟩
theorem qs_facts (h : ∀ x ∈ qs, qOk x = true) (hn : qs.length ≤ 64) : qK qs ∧ qT qs ∧ ls5 qs :=
  ⟨⟨by omega, fun i => goodN_lsK (qs_all h i)⟩, ⟨by omega, fun i => goodN_lsT (qs_all h i)⟩, by unfold ls5; omega⟩
theorem mGd.facts (h : mGd id fl qs a o m) : msgK qs a o m ∧ qT qs ∧ rT a ∧ rT o ∧ rT m ∧ ls5 qs ∧ ls5 a ∧ ls5 o ∧ ls5 m := by
  have hn := h.n
  obtain ⟨q1, q2, q3⟩ := qs_facts h.q (by omega)
  obtain ⟨a1, a2, a3, a4⟩ := rs_facts h.a (by omega)
  obtain ⟨o1, o2, o3, o4⟩ := rs_facts h.o (by omega)
  obtain ⟨m1, m2, m3, m4⟩ := rs_facts h.m (by omega)
  exact ⟨⟨q1, a1, o1, m1, a2, o2, m2⟩, q2, a3, o3, m3, q3, a4, o4, m4⟩
theorem rBad_no (h : ∀ x ∈ a, rGd x) : rBad a = false := by
  unfold rBad
  rw [List.any_eq_false]
  intro x hx
  rw [(h x hx).1]; decide
theorem mGd.gd (h : mGd id fl qs a o m) : gdM id fl qs a o m = true := by
  have hq : (qs.any fun q => !qOk q) = false := by
    rw [List.any_eq_false]
    intro x hx
    rw [h.q x hx]; decide
  unfold gdM
  rw [h.id, h.fl, decide_eq_true h.n, hq, rBad_no h.a, rBad_no h.o, rBad_no h.m]
  rfl
/-- the message of a refusal -/
theorem refused {fl2 : Int} (hg : gdM id fl qs a o m = true) (h2 : pairB fl2 = true) : mGd id fl2 qs [] [] [] := by
  unfold gdM at hg
  simp only [Bool.and_eq_true, decide_eq_true_eq, Bool.not_eq_true'] at hg
  obtain ⟨g1, g2, g3, g4, g5⟩ := hg
  refine ⟨g1, h2, by simp only [List.length_nil]; omega, fun x hx => ?_, by simp, by simp, by simp⟩
  rw [List.any_eq_false] at g4
  simpa using g4 x hx
end

theorem get_ok_call {id fl : Int} {qs : List DQ} {a o m : List DR} (h : mGd id fl qs a o m) (hl : (bytM id fl qs a o m).length ≤ 1472) (nx : Nat) : ACall Try.prog 57 [.bytes (bytM id fl qs a o m)] [] nx (.tup [msgA id fl qs a o m, iI 0]) [] (nx + 4000) := by
  obtain ⟨e1, e2⟩ := mg_at h hl
  have hc := mg_call (bytM id fl qs a o m) (by omega)
  rw [e1, e2] at hc
  exact (hc.liftV (fun r => rfl) (fun r => rfl) [] nx).upTo (by omega)
theorem mgA_ren (b : List UInt8) (r : Nat → Nat) : (AV.tup [mgA b, iI (mgE b)]).ren r = .tup [mgA b, iI (mgE b)] := by
  unfold mgA
  split <;> rfl

set_option maxRecDepth 100000 in
theorem dnsBack_good (b : List UInt8) (id fl : Int) (qs : List DQ) (a o m : List DR) (h0 : ¬ 1600 < b.length) (hc : ∀ nx, ACall Try.prog 57 [.bytes b] [] nx (.tup [msgA id fl qs a o m, iI 0]) [] (nx + 4000)) (hg : mGd id fl qs a o m) : ∃ L' n', ACall Try.prog 22 [.bytes b] [] 0 (.val (.bool true)) L' n' := by
  obtain ⟨hK, q1, r1, r2, r3, l1, l2, l3, l4⟩ := hg.facts
  have hd := hg.gd
  have k0 : decide ((b.length : Int) > (1600 : Int)) = false := decide_eq_false (by omega)
  have k1 : 0 + b.length ≤ 1000000000 := by omega
  have k2 : List.take (0 + b.length) b = b := by simp
  have k3 : 0 + (0 + b.length) ≤ b.length := by omega
  have c1 := hc 16
  by_cases hl : 1472 < (bytM id fl qs a o m).length
  · refine ⟨_, _, outXS_ok (kV21_ok 1) (db_lim b id fl qs a o m) ?_⟩
    simp only [ofVQ_v, ofVR_v]
    generalize bytM id fl qs a o m = c at *
    repeat' (first | exact allNil | refine allCons ?_ ?_ | (with_reducible refine allRp _ ?_ ?_))
    all_goals first | (with_reducible rfl) | exact True.intro | exact c1 | exact hK | exact hd | exact hl | exact k0 | exact ⟨rfl, k1⟩ | exact ⟨True.intro, k1⟩ | exact k2 | exact k3 | exact rfl
  · have hl := Nat.le_of_not_lt hl
    have h2 := get_ok_call hg hl
    have hB : ∃ c, bytM id fl qs a o m = c := ⟨_, rfl⟩
    obtain ⟨c, hB⟩ := hB
    rw [hB] at h2 hl
    refine ⟨_, _, outXS_ok (kV21_ok 2) (db_ok b id fl qs a o m c) ?_⟩
    simp only [ofVQ_v, ofVR_v, hB]
    have d1 := h2 4035
    repeat' (first | exact allNil | refine allCons ?_ ?_ | (with_reducible refine allRp _ ?_ ?_))
    all_goals first | (with_reducible rfl) | exact True.intro | exact c1 | exact hK | exact hd | exact hl | exact q1 | exact r1 | exact r2 | exact r3 | exact l1 | exact l2 | exact l3 | exact l4 | exact k0 | exact ⟨rfl, k1⟩ | exact ⟨True.intro, k1⟩ | exact k2 | exact k3 | exact h2 _ | exact beq_self_eq_true _ | exact rfl

set_option maxRecDepth 100000 in
theorem dnsBack_walk (b : List UInt8) : ∃ L' n', ACall Try.prog 22 [.bytes b] [] 0 (.val (.bool true)) L' n' := by
  by_cases h0 : 1600 < b.length
  · refine ⟨_, _, outXS_ok (kV21_ok 2) (db_big b) ?_⟩
    repeat' (first | exact allNil | refine allCons ?_ ?_ | (with_reducible refine allRp _ ?_ ?_))
    all_goals exact decide_eq_true (by omega)
  have hc : ∀ nx, ACall Try.prog 57 [.bytes b] [] nx (.tup [mgA b, iI (mgE b)]) [] (nx + 4000) := fun nx => ((mg_call b (by omega)).liftV (fun r => rfl) (mgA_ren b) [] nx).upTo (by omega)
  by_cases he : mgE b = 0
  · have hg := mg_good b he
    have hA : mgA b = msgA (pr2 b 0 0 : Nat) (pr2 b 2 0 : Nat) (mgQs b) (mgR1 b) (mgR2 b) (mgR3 b) := by unfold mgA; rw [if_pos he]
    rw [hA, he] at hc
    exact dnsBack_good b _ _ _ _ _ _ h0 hc hg
  · have hA : mgA b = .agg [iI 0, iI 0, nilS, nilS, nilS, nilS] := by unfold mgA; rw [if_neg he]
    rw [hA] at hc
    have c1 := hc 16
    have k0 : decide ((b.length : Int) > (1600 : Int)) = false := decide_eq_false (by omega)
    have k1 : 0 + b.length ≤ 1000000000 := by omega
    have k2 : List.take (0 + b.length) b = b := by simp
    have k3 : 0 + (0 + b.length) ≤ b.length := by omega
    have k4 : (mgE b != 0) = true := bne_iff_ne.2 he
    refine ⟨_, _, outXS_ok (kV21_ok 2) (db_err b (mgE b)) ?_⟩
    generalize mgE b = e at *
    repeat' (first | exact allNil | refine allCons ?_ ?_ | (with_reducible refine allRp _ ?_ ?_))
    all_goals first | (with_reducible rfl) | exact True.intro | exact c1 | exact k0 | exact ⟨rfl, k1⟩ | exact ⟨True.intro, k1⟩ | exact k2 | exact k3 | exact k4 | exact rfl

set_option maxRecDepth 100000 in
theorem dnsRefuses_walk (id fl : Int) (qs : List DQ) (a o m : List DR) (code : Int) (ta : ttlK a) (tO : ttlK o) (tm : ttlK m) : ∃ L' n', ACall Try.prog 23 [msgA id fl qs a o m, iI code] [] 0 (.val (.bool true)) L' n' := by
  cases hg : grN qs a o m with
  | true =>
    refine ⟨_, _, outXS_ok (kV21_ok 0) (dr_great id fl qs a o m code) ?_⟩
    simp only [ofVQ_v, ofVR_v]
    repeat' (first | exact allNil | refine allCons ?_ ?_ | (with_reducible refine allRp _ ?_ ?_))
    all_goals first | (with_reducible rfl) | exact True.intro | exact hg
  | false =>
    obtain ⟨hK, q1, r1, r2, r3, l1, l2, l3, l4⟩ := great_ok hg ta tO tm
    have hqK := hK.1
    have f1 := flR_ans fl code
    have f2 := flR_code fl code
    have f3 := flR_le fl code
    have f4 := flR_pair fl code
    have hF : bits BinOp.or IntKind.i64 (bits BinOp.or IntKind.i64 (bits BinOp.or IntKind.i64 (32768 : Int) (bits BinOp.and IntKind.i64 fl (30976 : Int))) (128 : Int)) (bits BinOp.and IntKind.i64 code (15 : Int)) = flR fl code := rfl
    generalize flR fl code = F at *
    cases hd : gdM id fl qs a o m with
    | false =>
      refine ⟨_, _, outXS_ok (kV21_ok 0) (dr_bad id fl qs a o m code) ?_⟩
      simp only [ofVQ_v, ofVR_v, hF]
      repeat' (first | exact allNil | refine allCons ?_ ?_ | (with_reducible refine allRp _ ?_ ?_))
      all_goals first | (with_reducible rfl) | exact True.intro | exact hg | exact hK | exact hd | exact hqK | exact f1 | exact f2 | exact f3 | exact bne_self _ | exact rfl
    | true =>
      by_cases hl : 1472 < (bytM id fl qs a o m).length
      · refine ⟨_, _, outXS_ok (kV21_ok 1) (dr_big id fl qs a o m code) ?_⟩
        simp only [ofVQ_v, ofVR_v, hF]
        repeat' (first | exact allNil | refine allCons ?_ ?_ | (with_reducible refine allRp _ ?_ ?_))
        all_goals first | (with_reducible rfl) | exact True.intro | exact hg | exact hK | exact hd | exact hl | exact hqK | exact f1 | exact f2 | exact f3 | exact bne_self _ | exact rfl
      · have hl := Nat.le_of_not_lt hl
        have hR := refused hd f4
        have hl2 : (bytM id F qs [] [] []).length ≤ 1472 := by
          have e1 : (bytM id F qs [] [] []).length = 12 + (encQs qs).length := by simp [bytM, headM, be2_len, encRs]; omega
          have e2 : 12 + (encQs qs).length ≤ (bytM id fl qs a o m).length := by simp [bytM, headM, be2_len]; omega
          omega
        obtain ⟨hK2, q2, -, -, -, l5, -, -, -⟩ := hR.facts
        have hd2 := hR.gd
        have h2 := get_ok_call hR hl2
        have z5 : ls5 ([] : List DR) := Nat.zero_le _
        have zT : rT ([] : List DR) := ⟨Nat.zero_le _, fun i => ⟨Nat.zero_le _, fun j => by simp [dr0]⟩⟩
        refine ⟨_, _, outXS_ok (kV21_ok 2) (dr_ok id fl qs a o m code F (bytM id F qs [] [] [])) ?_⟩
        simp only [ofVQ_v, ofVR_v, hF]
        repeat' (first | exact allNil | refine allCons ?_ ?_ | (with_reducible refine allRp _ ?_ ?_))
        all_goals first | (with_reducible rfl) | exact True.intro | exact hg | exact hK | exact hd | exact hl | exact hqK | exact f1 | exact f2 | exact f3 | exact h2 _ | exact hK2 | exact hd2 | exact hl2 | exact q2 | exact l5 | exact z5 | exact zT | exact bne_self _ | exact beq_self_eq_true _ | exact rfl
end Go.Proofs.Ytmilcpejchjleaa
