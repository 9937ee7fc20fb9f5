/- Several texts in one: CxRun, CyRun, Cz, CxLaw. -/
import Derived.Test.YtmilcpejchjleaaMcu
import Derived.Test.YtmilcpejchjleaaMez
import Derived.Test.YtmilcpejchjleaaMxe

/- The law CacheRoom (main runs). No condition. -/
namespace Go.Proofs.Ytmilcpejchjleaa
open Go.RowKit

set_option maxRecDepth 100000 in
theorem cx_r0 (room : Int) (n : Nat) (x : Nat → Int) : outXS kCh [(4, { op := [(3, 5, .br true)], gd := [(3, 3, true), (3, 4, true)] })] Try.prog 4 [AV.val (Value.int IntKind.i64 room), AV.view 1 n fun k => [AV.val (Value.int IntKind.u32 (x k))]] [] 0 [] [] =
   some (AV.val (Value.bool true), [], 15,
   rp 3 (decide (room < (1 : Int)) = true) ( [])) := by kernel_rfl

set_option maxRecDepth 100000 in
theorem cx_r31 (room : Int) (n : Nat) (x : Nat → Int) : outXS kCh [(4, { op := [(3, 5, .br false), (3, 10, .br true)], gd := [(3, 3, false), (3, 4, false), (3, 7, true), (3, 8, true), (3, 9, true)] })] Try.prog 4 [AV.val (Value.int IntKind.i64 room), AV.view 1 n fun k => [AV.val (Value.int IntKind.u32 (x k))]] [] 0 [] [] =
   some (AV.val (Value.bool true), [], 15,
   rp 3 (decide (room < (1 : Int)) = false) (
   rp 4 (decide (room > (30 : Int)) = true) ( []))) := by kernel_rfl

set_option maxRecDepth 100000 in
theorem cx_n61 (room : Int) (n : Nat) (x : Nat → Int) : outXS kCh [(4, { op := [(3, 5, .br false), (3, 10, .br false)], gd := [(3, 3, false), (3, 4, false), (3, 7, false), (3, 8, false), (3, 9, false)], br := [(23, true)] })] Try.prog 4 [AV.val (Value.int IntKind.i64 room), AV.view 1 n fun k => [AV.val (Value.int IntKind.u32 (x k))]] [] 0 [] [] =
   some (AV.val (Value.bool true), [], 15,
   rp 3 (decide (room < (1 : Int)) = false) (
   rp 4 (decide (room > (30 : Int)) = false) (
   (decide ((↑n : Int) > (60 : Int)) = true) :: []))) := by kernel_rfl

set_option maxRecDepth 100000 in
theorem cx_none (room : Int) (n : Nat) (x : Nat → Int) : outXS kCh [(25, { op := [(1, 5, .br false)], gd := [(1, 3, false), (1, 4, false)], br := [(9, false)] }),
   (4, { op := [(3, 5, .br false), (3, 10, .br false)], gd := [(3, 3, false), (3, 4, false), (3, 7, false), (3, 8, false), (3, 9, false)], br := [(23, false), (78, false), (83, false), (86, true)], ob := [(16, 1)] })] Try.prog 4 [AV.val (Value.int IntKind.i64 room), AV.view 1 n fun k => [AV.val (Value.int IntKind.u32 (x k))]] [] 0 [] [(9, crL0 room n x 31)] =
   some (AV.val (Value.bool true), [], 26,
   rp 3 (decide (room < (1 : Int)) = false) (
   rp 4 (decide (room > (30 : Int)) = false) (
   (decide ((↑n : Int) > (60 : Int)) = false) ::
   rp 3 (decide (room < (1 : Int)) = false) (
   (decide (room > (64 : Int)) = false) ::
   (AV.val (Value.int IntKind.i64 room) = AV.val (Value.int IntKind.i64 room)) ::
   ((AV.view 1 n fun k => [AV.val (Value.int IntKind.u32 (x k))]) = AV.view 1 n fun i => [AV.val (Value.int IntKind.u32 (x i))]) ::
   (AV.val (Value.int IntKind.i64 (0 : Int)) = AV.val (Value.int IntKind.i64 (0 : Int))) ::
   (SameO (some { t := 109, sz := 2, exact := true, fz := false, body := Body.rows [[AV.val (Value.int IntKind.i64 room), AV.val (Value.slice none 0 0)]] }) { t := 109, sz := 2, exact := true, fz := false, body := Body.rows [[AV.val (Value.int IntKind.i64 room), AV.val (Value.slice none 0 0)]] }) ::
   (EvXL Try.prog 0 (loopAt Try.prog 4 9) (GoalX.st (LoopX.G (crL0 room n x 31)) 0) (LoopX.ex (crL0 room n x 31)) (GoalX.st (LoopX.E (crL0 room n x 31)) 0)) ::
   (decide ((↑n : Int) > room) = false) ::
   (((0 : Int) != (↑n : Int)) = false) ::
   (((↑n : Int) == (0 : Int)) = true) :: [])))) := by kernel_rfl

set_option maxRecDepth 100000 in
theorem cx_ret (room : Int) (n : Nat) (x : Nat → Int) : outXS kCh [(25, { op := [(1, 5, .br false)], gd := [(1, 3, false), (1, 4, false)], br := [(9, false)] }),
   (4, { op := [(3, 5, .br false), (3, 10, .br false)], gd := [(3, 3, false), (3, 4, false), (3, 7, false), (3, 8, false), (3, 9, false)], br := [(23, false)] })] Try.prog 4 [AV.val (Value.int IntKind.i64 room), AV.view 1 n fun k => [AV.val (Value.int IntKind.u32 (x k))]] [] 0 [] [(9, crR room n x 31)] =
   some (AV.val (Value.bool true), [], 0,
   rp 3 (decide (room < (1 : Int)) = false) (
   rp 4 (decide (room > (30 : Int)) = false) (
   (decide ((↑n : Int) > (60 : Int)) = false) ::
   rp 3 (decide (room < (1 : Int)) = false) (
   (decide (room > (64 : Int)) = false) ::
   (AV.val (Value.int IntKind.i64 room) = AV.val (Value.int IntKind.i64 room)) ::
   ((AV.view 1 n fun k => [AV.val (Value.int IntKind.u32 (x k))]) = AV.view 1 n fun i => [AV.val (Value.int IntKind.u32 (x i))]) ::
   (AV.val (Value.int IntKind.i64 (0 : Int)) = AV.val (Value.int IntKind.i64 (0 : Int))) ::
   (SameO (some { t := 109, sz := 2, exact := true, fz := false, body := Body.rows [[AV.val (Value.int IntKind.i64 room), AV.val (Value.slice none 0 0)]] }) { t := 109, sz := 2, exact := true, fz := false, body := Body.rows [[AV.val (Value.int IntKind.i64 room), AV.val (Value.slice none 0 0)]] }) ::
   (EvXL Try.prog 0 (loopAt Try.prog 4 9) (GoalX.st (LoopX.G (crR room n x 31)) 0) (LoopX.ex (crR room n x 31)) (GoalX.st (LoopX.E (crR room n x 31)) 0)) :: [])))) := by kernel_rfl

set_option maxRecDepth 100000 in
theorem cx_le (room : Int) (n : Nat) (x : Nat → Int) (l : List (Nat × Int)) (y : Nat) (t : Int) : outXS kCh [(29, { op := [(2, 13, .br false), (2, 9, Hn.row (krow (y, t))), (4, 6, Hn.row (krow (y, t)))], gd := [(2, 3, false), (2, 4, false), (2, 5, false), (2, 6, false), (2, 7, false), (2, 8, false), (2, 9, false), (2, 10, false), (2, 11, false), (2, 12, false)], br := [(29, false)], ob := [(1, 2), (2, 8), (4, 5)] }),
   (25, { op := [(1, 5, .br false)], gd := [(1, 3, false), (1, 4, false)], br := [(9, false)] }),
   (4, { op := [(3, 5, .br false), (3, 10, .br false)], gd := [(3, 3, false), (3, 4, false), (3, 7, false), (3, 8, false), (3, 9, false)], br := [(23, false), (78, false), (83, false), (86, false)], ob := [(16, 1), (20, 5)] })] Try.prog 4 [AV.val (Value.int IntKind.i64 room), AV.view 1 n fun k => [AV.val (Value.int IntKind.u32 (x k))]] [] 0 [] [(9, crL room n x l 31)] =
   some (AV.val (Value.bool true), [], 246,
   rp 3 (decide (room < (1 : Int)) = false) (
   rp 4 (decide (room > (30 : Int)) = false) (
   (decide ((↑n : Int) > (60 : Int)) = false) ::
   rp 3 (decide (room < (1 : Int)) = false) (
   (decide (room > (64 : Int)) = false) ::
   (AV.val (Value.int IntKind.i64 room) = AV.val (Value.int IntKind.i64 room)) ::
   ((AV.view 1 n fun k => [AV.val (Value.int IntKind.u32 (x k))]) = AV.view 1 n fun i => [AV.val (Value.int IntKind.u32 (x i))]) ::
   (AV.val (Value.int IntKind.i64 (0 : Int)) = AV.val (Value.int IntKind.i64 (0 : Int))) ::
   (SameO (some { t := 109, sz := 2, exact := true, fz := false, body := Body.rows [[AV.val (Value.int IntKind.i64 room), AV.val (Value.slice none 0 0)]] }) { t := 109, sz := 2, exact := true, fz := false, body := Body.rows [[AV.val (Value.int IntKind.i64 room), AV.val (Value.slice none 0 0)]] }) ::
   (EvXL Try.prog 0 (loopAt Try.prog 4 9) (GoalX.st (LoopX.G (crL room n x l 31)) 0) (LoopX.ex (crL room n x l 31)) (GoalX.st (LoopX.E (crL room n x l 31)) 0)) ::
   (decide ((↑n : Int) > room) = false) ::
   (krows l = krows (kal (krows l))) ::
   (List.length l = List.length (krows l)) ::
   (List.length l ≤ 1000000) ::
   (∀ (y : Nat × Int), y ∈ kal (krows l) → (0 : Int) < y.2) ::
   (((↑(List.length l) : Int) != (↑n : Int)) = false) ::
   (((↑n : Int) == (0 : Int)) = false) ::
   ((0 : Int) ≤ IntKind.wrap IntKind.i64 ((↑n : Int) - (1 : Int))) ::
   (IntKind.wrap IntKind.i64 ((↑n : Int) - (1 : Int)) < (128 : Int)) ::
   (krows l = krows (kal (krows l))) ::
   (List.length l = List.length (krows l)) ::
   (List.length l ≤ 1000000) ::
   ((vS [nmB (Int.toNat (IntKind.wrap IntKind.i64 ((↑n : Int) - (1 : Int))))]) = vS [nmB (unN (vS [nmB (Int.toNat (IntKind.wrap IntKind.i64 ((↑n : Int) - (1 : Int))))]))]) ::
   (∀ (y : Nat × Int), y ∈ kal (krows l) → y.1 < 64) ::
   (unN (vS [nmB (Int.toNat (IntKind.wrap IntKind.i64 ((↑n : Int) - (1 : Int))))]) < 64) ::
   rp 6 (decide (fK (unN (vS [nmB (Int.toNat (IntKind.wrap IntKind.i64 ((↑n : Int) - (1 : Int))))])) (kal (krows l)) 0 < (0 : Int)) = false) (
   ((0 : Int) ≤ fK (unN (vS [nmB (Int.toNat (IntKind.wrap IntKind.i64 ((↑n : Int) - (1 : Int))))])) (kal (krows l)) 0 ∧ fK (unN (vS [nmB (Int.toNat (IntKind.wrap IntKind.i64 ((↑n : Int) - (1 : Int))))])) (kal (krows l)) 0 < (↑(List.length l) : Int)) ::
   (decide (fK (unN (vS [nmB (Int.toNat (IntKind.wrap IntKind.i64 ((↑n : Int) - (1 : Int))))])) (kal (krows l)) 0 < (0 : Int)) = false) ::
   ((krows l)[0 + Int.toNat (fK (unN (vS [nmB (Int.toNat (IntKind.wrap IntKind.i64 ((↑n : Int) - (1 : Int))))])) (kal (krows l)) 0)]? = some [vS [nmB y], AV.val (Value.int IntKind.i64 (1 : Int)), AV.val (Value.int IntKind.i64 (1 : Int)), AV.val (Value.int IntKind.i64 (9 : Int)), AV.val (Value.int IntKind.i64 (33152 : Int)), AV.val (Value.slice none 0 0), vR [kr (Prod.fst (y, t)) (Prod.snd (y, t))], AV.val (Value.slice none 0 0), AV.val (Value.slice none 0 0), AV.val (Value.int IntKind.i64 (0 : Int)), AV.val (Value.int IntKind.i64 t)]) ::
   rp 4 (decide (fK (unN (vS [nmB (Int.toNat (IntKind.wrap IntKind.i64 ((↑n : Int) - (1 : Int))))])) (kal (krows l)) 0 < (0 : Int)) = false) (
   ((!decide ((0 : Int) < t)) = false) ::
   ((0 : Int) ≤ fK (unN (vS [nmB (Int.toNat (IntKind.wrap IntKind.i64 ((↑n : Int) - (1 : Int))))])) (kal (krows l)) 0 ∧ fK (unN (vS [nmB (Int.toNat (IntKind.wrap IntKind.i64 ((↑n : Int) - (1 : Int))))])) (kal (krows l)) 0 < (↑(List.length l) : Int)) ::
   ((krows l)[0 + Int.toNat (fK (unN (vS [nmB (Int.toNat (IntKind.wrap IntKind.i64 ((↑n : Int) - (1 : Int))))])) (kal (krows l)) 0)]? = some [vS [nmB y], AV.val (Value.int IntKind.i64 (1 : Int)), AV.val (Value.int IntKind.i64 (1 : Int)), AV.val (Value.int IntKind.i64 (9 : Int)), AV.val (Value.int IntKind.i64 (33152 : Int)), AV.val (Value.slice none 0 0), vR [kr (Prod.fst (y, t)) (Prod.snd (y, t))], AV.val (Value.slice none 0 0), AV.val (Value.slice none 0 0), AV.val (Value.int IntKind.i64 (0 : Int)), AV.val (Value.int IntKind.i64 t)]) ::
   ((vR [kr (Prod.fst (y, t)) (Prod.snd (y, t))]) = vR [{ name := [List.getD (DR.name (List.getD (ofVR (vR [kr (Prod.fst (y, t)) (Prod.snd (y, t))])) 0 dr0)) 0 []], ty := DR.ty (List.getD (ofVR (vR [kr (Prod.fst (y, t)) (Prod.snd (y, t))])) 0 dr0), cl := DR.cl (List.getD (ofVR (vR [kr (Prod.fst (y, t)) (Prod.snd (y, t))])) 0 dr0), ttl := DR.ttl (List.getD (ofVR (vR [kr (Prod.fst (y, t)) (Prod.snd (y, t))])) 0 dr0), data := DR.data (List.getD (ofVR (vR [kr (Prod.fst (y, t)) (Prod.snd (y, t))])) 0 dr0) }]) ::
   ((0 : Int) ≤ t ∧ t < (4294967296 : Int)) ::
   (4 ≤ 1000) ::
   ((vS [nmB (Int.toNat (IntKind.wrap IntKind.i64 ((↑n : Int) - (1 : Int))))]) = vS [List.getD (lsOf (vS [nmB (Int.toNat (IntKind.wrap IntKind.i64 ((↑n : Int) - (1 : Int))))])) 0 []]) :: [])))))) := by kernel_rfl

set_option maxRecDepth 100000 in
theorem cx_gt (room : Int) (n : Nat) (x : Nat → Int) (l : List (Nat × Int)) (y : Nat) (t : Int) : outXS kCh [(29, { op := [(2, 13, .br false), (2, 9, Hn.row (krow (y, t))), (4, 6, Hn.row (krow (y, t)))], gd := [(2, 3, false), (2, 4, false), (2, 5, false), (2, 6, false), (2, 7, false), (2, 8, false), (2, 9, false), (2, 10, false), (2, 11, false), (2, 12, false)], br := [(29, false)], ob := [(1, 2), (2, 8), (4, 5)] }),
   (25, { op := [(1, 5, .br false)], gd := [(1, 3, false), (1, 4, false)], br := [(9, false)] }),
   (4, { op := [(3, 5, .br false), (3, 10, .br false)], gd := [(3, 3, false), (3, 4, false), (3, 7, false), (3, 8, false), (3, 9, false)], br := [(23, false), (78, true), (83, false), (86, false)], ob := [(16, 1), (20, 5)] })] Try.prog 4 [AV.val (Value.int IntKind.i64 room), AV.view 1 n fun k => [AV.val (Value.int IntKind.u32 (x k))]] [] 0 [] [(9, crL room n x l 31)] =
   some (AV.val (Value.bool true), [], 248,
   rp 3 (decide (room < (1 : Int)) = false) (
   rp 4 (decide (room > (30 : Int)) = false) (
   (decide ((↑n : Int) > (60 : Int)) = false) ::
   rp 3 (decide (room < (1 : Int)) = false) (
   (decide (room > (64 : Int)) = false) ::
   (AV.val (Value.int IntKind.i64 room) = AV.val (Value.int IntKind.i64 room)) ::
   ((AV.view 1 n fun k => [AV.val (Value.int IntKind.u32 (x k))]) = AV.view 1 n fun i => [AV.val (Value.int IntKind.u32 (x i))]) ::
   (AV.val (Value.int IntKind.i64 (0 : Int)) = AV.val (Value.int IntKind.i64 (0 : Int))) ::
   (SameO (some { t := 109, sz := 2, exact := true, fz := false, body := Body.rows [[AV.val (Value.int IntKind.i64 room), AV.val (Value.slice none 0 0)]] }) { t := 109, sz := 2, exact := true, fz := false, body := Body.rows [[AV.val (Value.int IntKind.i64 room), AV.val (Value.slice none 0 0)]] }) ::
   (EvXL Try.prog 0 (loopAt Try.prog 4 9) (GoalX.st (LoopX.G (crL room n x l 31)) 0) (LoopX.ex (crL room n x l 31)) (GoalX.st (LoopX.E (crL room n x l 31)) 0)) ::
   (decide ((↑n : Int) > room) = true) ::
   (krows l = krows (kal (krows l))) ::
   (List.length l = List.length (krows l)) ::
   (List.length l ≤ 1000000) ::
   (∀ (y : Nat × Int), y ∈ kal (krows l) → (0 : Int) < y.2) ::
   (((↑(List.length l) : Int) != room) = false) ::
   (((↑n : Int) == (0 : Int)) = false) ::
   ((0 : Int) ≤ IntKind.wrap IntKind.i64 ((↑n : Int) - (1 : Int))) ::
   (IntKind.wrap IntKind.i64 ((↑n : Int) - (1 : Int)) < (128 : Int)) ::
   (krows l = krows (kal (krows l))) ::
   (List.length l = List.length (krows l)) ::
   (List.length l ≤ 1000000) ::
   ((vS [nmB (Int.toNat (IntKind.wrap IntKind.i64 ((↑n : Int) - (1 : Int))))]) = vS [nmB (unN (vS [nmB (Int.toNat (IntKind.wrap IntKind.i64 ((↑n : Int) - (1 : Int))))]))]) ::
   (∀ (y : Nat × Int), y ∈ kal (krows l) → y.1 < 64) ::
   (unN (vS [nmB (Int.toNat (IntKind.wrap IntKind.i64 ((↑n : Int) - (1 : Int))))]) < 64) ::
   rp 6 (decide (fK (unN (vS [nmB (Int.toNat (IntKind.wrap IntKind.i64 ((↑n : Int) - (1 : Int))))])) (kal (krows l)) 0 < (0 : Int)) = false) (
   ((0 : Int) ≤ fK (unN (vS [nmB (Int.toNat (IntKind.wrap IntKind.i64 ((↑n : Int) - (1 : Int))))])) (kal (krows l)) 0 ∧ fK (unN (vS [nmB (Int.toNat (IntKind.wrap IntKind.i64 ((↑n : Int) - (1 : Int))))])) (kal (krows l)) 0 < (↑(List.length l) : Int)) ::
   (decide (fK (unN (vS [nmB (Int.toNat (IntKind.wrap IntKind.i64 ((↑n : Int) - (1 : Int))))])) (kal (krows l)) 0 < (0 : Int)) = false) ::
   ((krows l)[0 + Int.toNat (fK (unN (vS [nmB (Int.toNat (IntKind.wrap IntKind.i64 ((↑n : Int) - (1 : Int))))])) (kal (krows l)) 0)]? = some [vS [nmB y], AV.val (Value.int IntKind.i64 (1 : Int)), AV.val (Value.int IntKind.i64 (1 : Int)), AV.val (Value.int IntKind.i64 (9 : Int)), AV.val (Value.int IntKind.i64 (33152 : Int)), AV.val (Value.slice none 0 0), vR [kr (Prod.fst (y, t)) (Prod.snd (y, t))], AV.val (Value.slice none 0 0), AV.val (Value.slice none 0 0), AV.val (Value.int IntKind.i64 (0 : Int)), AV.val (Value.int IntKind.i64 t)]) ::
   rp 4 (decide (fK (unN (vS [nmB (Int.toNat (IntKind.wrap IntKind.i64 ((↑n : Int) - (1 : Int))))])) (kal (krows l)) 0 < (0 : Int)) = false) (
   ((!decide ((0 : Int) < t)) = false) ::
   ((0 : Int) ≤ fK (unN (vS [nmB (Int.toNat (IntKind.wrap IntKind.i64 ((↑n : Int) - (1 : Int))))])) (kal (krows l)) 0 ∧ fK (unN (vS [nmB (Int.toNat (IntKind.wrap IntKind.i64 ((↑n : Int) - (1 : Int))))])) (kal (krows l)) 0 < (↑(List.length l) : Int)) ::
   ((krows l)[0 + Int.toNat (fK (unN (vS [nmB (Int.toNat (IntKind.wrap IntKind.i64 ((↑n : Int) - (1 : Int))))])) (kal (krows l)) 0)]? = some [vS [nmB y], AV.val (Value.int IntKind.i64 (1 : Int)), AV.val (Value.int IntKind.i64 (1 : Int)), AV.val (Value.int IntKind.i64 (9 : Int)), AV.val (Value.int IntKind.i64 (33152 : Int)), AV.val (Value.slice none 0 0), vR [kr (Prod.fst (y, t)) (Prod.snd (y, t))], AV.val (Value.slice none 0 0), AV.val (Value.slice none 0 0), AV.val (Value.int IntKind.i64 (0 : Int)), AV.val (Value.int IntKind.i64 t)]) ::
   ((vR [kr (Prod.fst (y, t)) (Prod.snd (y, t))]) = vR [{ name := [List.getD (DR.name (List.getD (ofVR (vR [kr (Prod.fst (y, t)) (Prod.snd (y, t))])) 0 dr0)) 0 []], ty := DR.ty (List.getD (ofVR (vR [kr (Prod.fst (y, t)) (Prod.snd (y, t))])) 0 dr0), cl := DR.cl (List.getD (ofVR (vR [kr (Prod.fst (y, t)) (Prod.snd (y, t))])) 0 dr0), ttl := DR.ttl (List.getD (ofVR (vR [kr (Prod.fst (y, t)) (Prod.snd (y, t))])) 0 dr0), data := DR.data (List.getD (ofVR (vR [kr (Prod.fst (y, t)) (Prod.snd (y, t))])) 0 dr0) }]) ::
   ((0 : Int) ≤ t ∧ t < (4294967296 : Int)) ::
   (4 ≤ 1000) ::
   ((vS [nmB (Int.toNat (IntKind.wrap IntKind.i64 ((↑n : Int) - (1 : Int))))]) = vS [List.getD (lsOf (vS [nmB (Int.toNat (IntKind.wrap IntKind.i64 ((↑n : Int) - (1 : Int))))])) 0 []]) :: [])))))) := by kernel_rfl
end Go.Proofs.Ytmilcpejchjleaa

/- The law CacheRoom (runs of its rounds). No condition. -/
namespace Go.Proofs.Ytmilcpejchjleaa
open Go.RowKit

set_option maxRecDepth 100000 in
theorem cy_first (room : Int) (n : Nat) (x : Nat → Int) : stepXS kCh [(26, { br := [(26, false)], ob := [(4, 2), (7, 1)] }),
   (72, { br := [(14, true)] }),
   (4, { op := [(11, 11, .br false), (11, 24, .br false)], gd := [(11, 6, false), (11, 7, false), (11, 8, false), (11, 9, false), (11, 10, false), (11, 13, false), (11, 14, false), (11, 15, false), (11, 16, false), (11, 17, false), (11, 18, false), (11, 19, false), (11, 20, false), (11, 21, false), (11, 22, false), (11, 23, false)], br := [(34, true)], ob := [(11, 2), (11, 8), (11, 19), (11, 22)] })] Try.prog 4 9 (crG0 room n x) (crG1 room n x (0, x 0)) [0, 220] 0 [] =
   some (.normal,
   (decide ((0 : Int) < (↑n : Int)) = true) ::
   ((0 : Int) ≤ (0 : Int) ∧ (0 : Int) < (↑n : Int)) ::
   rp 3 (decide (x 0 < (1 : Int)) = false) (
   ((0 : Int) ≤ (0 : Int) ∧ (0 : Int) < (↑n : Int)) ::
   rp 3 (decide (x 0 < (1 : Int)) = false) (
   rp 3 (decide (x 0 > (1000 : Int)) = false) (
   ((0 : Int) ≤ (0 : Int)) ::
   ((0 : Int) < (128 : Int)) ::
   rp 4 (decide (x 0 > (1000 : Int)) = false) (
   ((0 : Int) ≤ (0 : Int) ∧ (0 : Int) < (↑n : Int)) ::
   rp 2 (decide (x 0 > (1000 : Int)) = false) (
   ((0 : Int) ≤ (0 : Int)) ::
   ((0 : Int) < (128 : Int)) ::
   (decide (x 0 > (1000 : Int)) = false) ::
   ((IntKind.wrap IntKind.i64 (if x 0 < (86400 : Int) then x 0 else (86400 : Int)) == (0 : Int)) = false) ::
   ((vS [[(97 : UInt8), (97 : UInt8)]]) = vS [[(97 : UInt8), (97 : UInt8)]]) ::
   ((vR [kr (Int.toNat (0 : Int)) (x 0)]) = vR [{ name := [List.getD (DR.name (List.getD (ofVR (vR [kr (Int.toNat (0 : Int)) (x 0)])) 0 dr0)) 0 []], ty := DR.ty (List.getD (ofVR (vR [kr (Int.toNat (0 : Int)) (x 0)])) 0 dr0), cl := DR.cl (List.getD (ofVR (vR [kr (Int.toNat (0 : Int)) (x 0)])) 0 dr0), ttl := DR.ttl (List.getD (ofVR (vR [kr (Int.toNat (0 : Int)) (x 0)])) 0 dr0), data := DR.data (List.getD (ofVR (vR [kr (Int.toNat (0 : Int)) (x 0)])) 0 dr0) }]) ::
   ((0 : Int) ≤ x 0 ∧ x 0 < (4294967296 : Int)) ::
   (4 ≤ 1000) ::
   (decide ((0 : Int) < room) = true) ::
   rp 2 (decide (x 0 > (1000 : Int)) = false) (
   (AV.val (Value.int IntKind.i64 room) = AV.val (Value.int IntKind.i64 room)) ::
   ((AV.view 1 n fun k => [AV.val (Value.int IntKind.u32 (x k))]) = AV.view 1 n fun i => [AV.val (Value.int IntKind.u32 (x i))]) ::
   (AV.val (Value.int IntKind.i64 (1 : Int)) = AV.val (Value.int IntKind.i64 (1 : Int))) ::
   (SameO (some { t := 109, sz := 2, exact := true, fz := false, body := Body.rows [[AV.val (Value.int IntKind.i64 room), AV.sl 220 0 1 none]] }) { t := 109, sz := 2, exact := true, fz := false, body := Body.rows [[AV.val (Value.int IntKind.i64 room), AV.sl 220 0 1 none]] }) ::
   (SameO (some { t := 114, sz := 11, exact := false, fz := false, body := Body.rows [[vS [[(97 : UInt8), (97 : UInt8)]], AV.val (Value.int IntKind.i64 (1 : Int)), AV.val (Value.int IntKind.i64 (1 : Int)), AV.val (Value.int IntKind.i64 (9 : Int)), AV.val (Value.int IntKind.i64 (33152 : Int)), AV.val (Value.slice none 0 0), vR [{ name := [List.getD (DR.name (List.getD (ofVR (vR [kr (Int.toNat (0 : Int)) (x 0)])) 0 dr0)) 0 []], ty := DR.ty (List.getD (ofVR (vR [kr (Int.toNat (0 : Int)) (x 0)])) 0 dr0), cl := DR.cl (List.getD (ofVR (vR [kr (Int.toNat (0 : Int)) (x 0)])) 0 dr0), ttl := DR.ttl (List.getD (ofVR (vR [kr (Int.toNat (0 : Int)) (x 0)])) 0 dr0), data := DR.data (List.getD (ofVR (vR [kr (Int.toNat (0 : Int)) (x 0)])) 0 dr0) }], AV.val (Value.slice none 0 0), AV.val (Value.slice none 0 0), AV.val (Value.int IntKind.i64 (0 : Int)), AV.val (Value.int IntKind.i64 (IntKind.wrap IntKind.i64 ((0 : Int) + IntKind.wrap IntKind.i64 (if x 0 < (86400 : Int) then x 0 else (86400 : Int)))))]] }) { t := 114, sz := 11, exact := false, fz := false, body := Body.rows [[vS [[(97 : UInt8), (97 : UInt8)]], AV.val (Value.int IntKind.i64 (1 : Int)), AV.val (Value.int IntKind.i64 (1 : Int)), AV.val (Value.int IntKind.i64 (9 : Int)), AV.val (Value.int IntKind.i64 (33152 : Int)), AV.val (Value.slice none 0 0), vR [kr (Prod.fst (0, x 0)) (Prod.snd (0, x 0))], AV.val (Value.slice none 0 0), AV.val (Value.slice none 0 0), AV.val (Value.int IntKind.i64 (0 : Int)), AV.val (Value.int IntKind.i64 (x 0))]] }) :: []))))))) := by kernel_rfl

set_option maxRecDepth 100000 in
theorem cy_grow (room : Int) (n : Nat) (x : Nat → Int) (i : Nat) (l : List (Nat × Int)) : stepXS kCh [(26, { br := [(26, false), (41, false)], ob := [(4, 2), (7, 1), (8, 7)] }),
   (72, { br := [(14, true)] }),
   (4, { op := [(11, 11, .br false), (11, 24, .br false)], gd := [(11, 6, false), (11, 7, false), (11, 8, false), (11, 9, false), (11, 10, false), (11, 13, false), (11, 14, false), (11, 15, false), (11, 16, false), (11, 17, false), (11, 18, false), (11, 19, false), (11, 20, false), (11, 21, false), (11, 22, false), (11, 23, false)], br := [(34, true)], ob := [(11, 2), (11, 8), (11, 19), (11, 22)] })] Try.prog 4 9 (crG room n x i l) (crG room n x (i + 1) (l ++ [(i, x i)])) [0, 216] 0 [] =
   some (.normal,
   (decide ((↑i : Int) < (↑n : Int)) = true) ::
   ((0 : Int) ≤ (↑i : Int) ∧ (↑i : Int) < (↑n : Int)) ::
   rp 3 (decide (x i < (1 : Int)) = false) (
   ((0 : Int) ≤ (↑i : Int) ∧ (↑i : Int) < (↑n : Int)) ::
   rp 3 (decide (x i < (1 : Int)) = false) (
   rp 3 (decide (x i > (1000 : Int)) = false) (
   ((0 : Int) ≤ (↑i : Int)) ::
   ((↑i : Int) < (128 : Int)) ::
   rp 4 (decide (x i > (1000 : Int)) = false) (
   ((0 : Int) ≤ (↑i : Int) ∧ (↑i : Int) < (↑n : Int)) ::
   rp 2 (decide (x i > (1000 : Int)) = false) (
   ((0 : Int) ≤ (↑i : Int)) ::
   ((↑i : Int) < (128 : Int)) ::
   (decide (x i > (1000 : Int)) = false) ::
   ((IntKind.wrap IntKind.i64 (if x i < (86400 : Int) then x i else (86400 : Int)) == (0 : Int)) = false) ::
   ((vS [nmB i]) = vS [List.getD (lsOf (vS [nmB i])) 0 []]) ::
   ((vR [kr (Int.toNat (↑i : Int)) (x i)]) = vR [{ name := [List.getD (DR.name (List.getD (ofVR (vR [kr (Int.toNat (↑i : Int)) (x i)])) 0 dr0)) 0 []], ty := DR.ty (List.getD (ofVR (vR [kr (Int.toNat (↑i : Int)) (x i)])) 0 dr0), cl := DR.cl (List.getD (ofVR (vR [kr (Int.toNat (↑i : Int)) (x i)])) 0 dr0), ttl := DR.ttl (List.getD (ofVR (vR [kr (Int.toNat (↑i : Int)) (x i)])) 0 dr0), data := DR.data (List.getD (ofVR (vR [kr (Int.toNat (↑i : Int)) (x i)])) 0 dr0) }]) ::
   ((0 : Int) ≤ x i ∧ x i < (4294967296 : Int)) ::
   (4 ≤ 1000) ::
   (krows l = krows (kal (krows l))) ::
   (List.length l = List.length (krows l)) ::
   (List.length l ≤ 1000000) ::
   ((vS [nmB i]) = vS [nmB (unN (vS [nmB i]))]) ::
   (∀ (y : Nat × Int), y ∈ kal (krows l) → y.1 < 64) ::
   (unN (vS [nmB i]) < 64) ::
   (decide (fK (unN (vS [nmB i])) (kal (krows l)) 0 ≥ (0 : Int)) = false) ::
   (decide ((↑(List.length l) : Int) < room) = true) ::
   (List.length (krows l) = List.length l) ::
   (List.length l + 1 ≤ 1000000000) ::
   ((List.length l + 1) * 168 ≤ 140737488355328) ::
   rp 2 (decide (x i > (1000 : Int)) = false) (
   (AV.val (Value.int IntKind.i64 room) = AV.val (Value.int IntKind.i64 room)) ::
   ((AV.view 1 n fun k => [AV.val (Value.int IntKind.u32 (x k))]) = AV.view 1 n fun i => [AV.val (Value.int IntKind.u32 (x i))]) ::
   (AV.val (Value.int IntKind.i64 (IntKind.wrap IntKind.i64 ((↑i : Int) + (1 : Int)))) = AV.val (Value.int IntKind.i64 (↑(i + 1) : Int))) ::
   (SameO (some { t := 109, sz := 2, exact := true, fz := false, body := Body.rows [[AV.val (Value.int IntKind.i64 room), AV.sl 216 0 (List.length l + 1) none]] }) { t := 109, sz := 2, exact := true, fz := false, body := Body.rows [[AV.val (Value.int IntKind.i64 room), AV.sl 216 0 (List.length (l ++ [(i, x i)])) none]] }) ::
   (SameO (some { t := 114, sz := 11, exact := false, fz := false, body := Body.flat (krows l ++ [[vS [List.getD (lsOf (vS [nmB i])) 0 []], AV.val (Value.int IntKind.i64 (1 : Int)), AV.val (Value.int IntKind.i64 (1 : Int)), AV.val (Value.int IntKind.i64 (9 : Int)), AV.val (Value.int IntKind.i64 (33152 : Int)), AV.val (Value.slice none 0 0), vR [{ name := [List.getD (DR.name (List.getD (ofVR (vR [kr (Int.toNat (↑i : Int)) (x i)])) 0 dr0)) 0 []], ty := DR.ty (List.getD (ofVR (vR [kr (Int.toNat (↑i : Int)) (x i)])) 0 dr0), cl := DR.cl (List.getD (ofVR (vR [kr (Int.toNat (↑i : Int)) (x i)])) 0 dr0), ttl := DR.ttl (List.getD (ofVR (vR [kr (Int.toNat (↑i : Int)) (x i)])) 0 dr0), data := DR.data (List.getD (ofVR (vR [kr (Int.toNat (↑i : Int)) (x i)])) 0 dr0) }], AV.val (Value.slice none 0 0), AV.val (Value.slice none 0 0), AV.val (Value.int IntKind.i64 (0 : Int)), AV.val (Value.int IntKind.i64 (IntKind.wrap IntKind.i64 ((0 : Int) + IntKind.wrap IntKind.i64 (if x i < (86400 : Int) then x i else (86400 : Int)))))]]) }) { t := 114, sz := 11, exact := false, fz := false, body := Body.flat (List.map (fun x => (AV.brecOn_1.go x (AV.ren._f (renX 0 [0, 216] 224)) (renL._f (renX 0 [0, 216] 224))).1) (krows (l ++ [(i, x i)]))) }) :: []))))))) := by kernel_rfl

set_option maxRecDepth 100000 in
theorem cy_full (room : Int) (n : Nat) (x : Nat → Int) (i : Nat) (l : List (Nat × Int)) : stepXS kCm [(26, { op := [(8, 7, Hn.inn)], br := [(26, false), (41, false)], ob := [(4, 2), (7, 1)] }),
   (4, { op := [(11, 11, .br false), (11, 24, .br false)], gd := [(11, 6, false), (11, 7, false), (11, 8, false), (11, 9, false), (11, 10, false), (11, 13, false), (11, 14, false), (11, 15, false), (11, 16, false), (11, 17, false), (11, 18, false), (11, 19, false), (11, 20, false), (11, 21, false), (11, 22, false), (11, 23, false)], br := [(34, true)], ob := [(11, 2), (11, 8), (11, 19), (11, 22)] })] Try.prog 4 9 (crG room n x i l) (crG room n x (i + 1) (List.eraseIdx l (frst l (List.length l) 0 0) ++ [(i, x i)])) [0, 1] 0 [] =
   some (.normal,
   (decide ((↑i : Int) < (↑n : Int)) = true) ::
   ((0 : Int) ≤ (↑i : Int) ∧ (↑i : Int) < (↑n : Int)) ::
   rp 3 (decide (x i < (1 : Int)) = false) (
   ((0 : Int) ≤ (↑i : Int) ∧ (↑i : Int) < (↑n : Int)) ::
   rp 3 (decide (x i < (1 : Int)) = false) (
   rp 3 (decide (x i > (1000 : Int)) = false) (
   ((0 : Int) ≤ (↑i : Int)) ::
   ((↑i : Int) < (128 : Int)) ::
   rp 4 (decide (x i > (1000 : Int)) = false) (
   ((0 : Int) ≤ (↑i : Int) ∧ (↑i : Int) < (↑n : Int)) ::
   rp 2 (decide (x i > (1000 : Int)) = false) (
   ((0 : Int) ≤ (↑i : Int)) ::
   ((↑i : Int) < (128 : Int)) ::
   (decide (x i > (1000 : Int)) = false) ::
   ((IntKind.wrap IntKind.i64 (if x i < (86400 : Int) then x i else (86400 : Int)) == (0 : Int)) = false) ::
   ((vS [nmB i]) = vS [List.getD (lsOf (vS [nmB i])) 0 []]) ::
   ((vR [kr (Int.toNat (↑i : Int)) (x i)]) = vR [{ name := [List.getD (DR.name (List.getD (ofVR (vR [kr (Int.toNat (↑i : Int)) (x i)])) 0 dr0)) 0 []], ty := DR.ty (List.getD (ofVR (vR [kr (Int.toNat (↑i : Int)) (x i)])) 0 dr0), cl := DR.cl (List.getD (ofVR (vR [kr (Int.toNat (↑i : Int)) (x i)])) 0 dr0), ttl := DR.ttl (List.getD (ofVR (vR [kr (Int.toNat (↑i : Int)) (x i)])) 0 dr0), data := DR.data (List.getD (ofVR (vR [kr (Int.toNat (↑i : Int)) (x i)])) 0 dr0) }]) ::
   ((0 : Int) ≤ x i ∧ x i < (4294967296 : Int)) ::
   (4 ≤ 1000) ::
   (krows l = krows (kal (krows l))) ::
   (List.length l = List.length (krows l)) ::
   (List.length l ≤ 1000000) ::
   ((vS [nmB i]) = vS [nmB (unN (vS [nmB i]))]) ::
   (∀ (y : Nat × Int), y ∈ kal (krows l) → y.1 < 64) ::
   (unN (vS [nmB i]) < 64) ::
   (decide (fK (unN (vS [nmB i])) (kal (krows l)) 0 ≥ (0 : Int)) = false) ::
   (krows l = krows (kal (krows l))) ::
   (List.length l = List.length (krows l)) ::
   (List.length l ≤ 1000000) ::
   (room = (↑(List.length l) : Int)) ::
   (0 < List.length l) ::
   (0 < 1) ::
   (1 ≤ 1) ::
   (List.length l - 1 + 1 ≤ List.length (krows (List.eraseIdx (kal (krows l)) (frst (kal (krows l)) (List.length l) 0 0)) ++ [[AV.val (Value.slice none 0 0), AV.val (Value.int IntKind.i64 (0 : Int)), AV.val (Value.int IntKind.i64 (0 : Int)), AV.val (Value.int IntKind.i64 (0 : Int)), AV.val (Value.int IntKind.i64 (0 : Int)), AV.val (Value.slice none 0 0), AV.val (Value.slice none 0 0), AV.val (Value.slice none 0 0), AV.val (Value.slice none 0 0), AV.val (Value.int IntKind.i64 (0 : Int)), AV.val (Value.int IntKind.i64 (0 : Int))]])) ::
   ((11 == 11 && (true && (true && (true && (true && (true && (true && (true && (true && (true && (true && (true && true))))))))))) && true) = true) ::
   rp 2 (decide (x i > (1000 : Int)) = false) (
   (AV.val (Value.int IntKind.i64 room) = AV.val (Value.int IntKind.i64 room)) ::
   ((AV.view 1 n fun k => [AV.val (Value.int IntKind.u32 (x k))]) = AV.view 1 n fun i => [AV.val (Value.int IntKind.u32 (x i))]) ::
   (AV.val (Value.int IntKind.i64 (IntKind.wrap IntKind.i64 ((↑i : Int) + (1 : Int)))) = AV.val (Value.int IntKind.i64 (↑(i + 1) : Int))) ::
   (SameO (some { t := 109, sz := 2, exact := true, fz := false, body := Body.rows [[AV.val (Value.int IntKind.i64 room), AV.sl 1 0 (List.length l - 1 + 1) none]] }) { t := 109, sz := 2, exact := true, fz := false, body := Body.rows [[AV.val (Value.int IntKind.i64 room), AV.sl 1 0 (List.length (List.eraseIdx l (frst l (List.length l) 0 0) ++ [(i, x i)])) none]] }) ::
   (SameO (some { t := 114, sz := 11, exact := false, fz := false, body := Body.flat (List.take (List.length l - 1) (krows (List.eraseIdx (kal (krows l)) (frst (kal (krows l)) (List.length l) 0 0)) ++ [[AV.val (Value.slice none 0 0), AV.val (Value.int IntKind.i64 (0 : Int)), AV.val (Value.int IntKind.i64 (0 : Int)), AV.val (Value.int IntKind.i64 (0 : Int)), AV.val (Value.int IntKind.i64 (0 : Int)), AV.val (Value.slice none 0 0), AV.val (Value.slice none 0 0), AV.val (Value.slice none 0 0), AV.val (Value.slice none 0 0), AV.val (Value.int IntKind.i64 (0 : Int)), AV.val (Value.int IntKind.i64 (0 : Int))]]) ++ [[vS [List.getD (lsOf (vS [nmB i])) 0 []], AV.val (Value.int IntKind.i64 (1 : Int)), AV.val (Value.int IntKind.i64 (1 : Int)), AV.val (Value.int IntKind.i64 (9 : Int)), AV.val (Value.int IntKind.i64 (33152 : Int)), AV.val (Value.slice none 0 0), vR [{ name := [List.getD (DR.name (List.getD (ofVR (vR [kr (Int.toNat (↑i : Int)) (x i)])) 0 dr0)) 0 []], ty := DR.ty (List.getD (ofVR (vR [kr (Int.toNat (↑i : Int)) (x i)])) 0 dr0), cl := DR.cl (List.getD (ofVR (vR [kr (Int.toNat (↑i : Int)) (x i)])) 0 dr0), ttl := DR.ttl (List.getD (ofVR (vR [kr (Int.toNat (↑i : Int)) (x i)])) 0 dr0), data := DR.data (List.getD (ofVR (vR [kr (Int.toNat (↑i : Int)) (x i)])) 0 dr0) }], AV.val (Value.slice none 0 0), AV.val (Value.slice none 0 0), AV.val (Value.int IntKind.i64 (0 : Int)), AV.val (Value.int IntKind.i64 (IntKind.wrap IntKind.i64 ((0 : Int) + IntKind.wrap IntKind.i64 (if x i < (86400 : Int) then x i else (86400 : Int)))))]] ++ List.drop (List.length l - 1 + 1) (krows (List.eraseIdx (kal (krows l)) (frst (kal (krows l)) (List.length l) 0 0)) ++ [[AV.val (Value.slice none 0 0), AV.val (Value.int IntKind.i64 (0 : Int)), AV.val (Value.int IntKind.i64 (0 : Int)), AV.val (Value.int IntKind.i64 (0 : Int)), AV.val (Value.int IntKind.i64 (0 : Int)), AV.val (Value.slice none 0 0), AV.val (Value.slice none 0 0), AV.val (Value.slice none 0 0), AV.val (Value.slice none 0 0), AV.val (Value.int IntKind.i64 (0 : Int)), AV.val (Value.int IntKind.i64 (0 : Int))]])) }) { t := 114, sz := 11, exact := false, fz := false, body := Body.flat (List.map (fun x => (AV.brecOn_1.go x (AV.ren._f (renX 0 [0, 1] 412)) (renL._f (renX 0 [0, 1] 412))).1) (krows (List.eraseIdx l (frst l (List.length l) 0 0) ++ [(i, x i)]))) }) :: []))))))) := by kernel_rfl

set_option maxRecDepth 100000 in
theorem cy_lo (room : Int) (n : Nat) (x : Nat → Int) (i : Nat) (l : List (Nat × Int)) : stepXS kCh [(4, { op := [(11, 11, .br true), (12, 11, .br true)], gd := [(11, 6, true), (11, 7, true), (11, 8, true), (11, 9, true), (11, 10, true), (12, 6, true), (12, 7, true), (12, 8, true), (12, 9, true), (12, 10, true)], br := [(34, true)], ob := [(11, 2), (12, 2)] })] Try.prog 4 9 (crG room n x i l) (crN) [] 0 [] =
   some (.ret,
   (decide ((↑i : Int) < (↑n : Int)) = true) ::
   ((0 : Int) ≤ (↑i : Int) ∧ (↑i : Int) < (↑n : Int)) ::
   rp 6 (decide (x i < (1 : Int)) = true) (
   ((0 : Int) ≤ (↑i : Int) ∧ (↑i : Int) < (↑n : Int)) ::
   rp 6 (decide (x i < (1 : Int)) = true) (
   (AV.val (Value.bool true) = AV.val (Value.bool true)) :: []))) := by kernel_rfl

set_option maxRecDepth 100000 in
theorem cy_hi (room : Int) (n : Nat) (x : Nat → Int) (i : Nat) (l : List (Nat × Int)) : stepXS kCh [(4, { op := [(11, 11, .br false), (11, 24, .br true), (12, 11, .br false)], gd := [(11, 6, false), (11, 7, false), (11, 8, false), (11, 9, false), (11, 10, false), (11, 13, true), (11, 14, true), (11, 15, true), (11, 16, true), (11, 17, true), (11, 18, true), (11, 19, true), (11, 20, true), (11, 21, true), (11, 22, true), (11, 23, true), (12, 6, false), (12, 7, false), (12, 8, false), (12, 9, false), (12, 10, false)], br := [(34, true)], ob := [(11, 2), (11, 8), (12, 2), (12, 8)] })] Try.prog 4 9 (crG room n x i l) (crN) [] 0 [] =
   some (.ret,
   (decide ((↑i : Int) < (↑n : Int)) = true) ::
   ((0 : Int) ≤ (↑i : Int) ∧ (↑i : Int) < (↑n : Int)) ::
   rp 3 (decide (x i < (1 : Int)) = false) (
   ((0 : Int) ≤ (↑i : Int) ∧ (↑i : Int) < (↑n : Int)) ::
   rp 3 (decide (x i < (1 : Int)) = false) (
   rp 12 (decide (x i > (1000 : Int)) = true) (
   ((0 : Int) ≤ (↑i : Int) ∧ (↑i : Int) < (↑n : Int)) ::
   rp 3 (decide (x i < (1 : Int)) = false) (
   ((0 : Int) ≤ (↑i : Int) ∧ (↑i : Int) < (↑n : Int)) ::
   rp 3 (decide (x i < (1 : Int)) = false) (
   (AV.val (Value.bool (decide (x i > (1000 : Int)))) = AV.val (Value.bool true)) :: [])))))) := by kernel_rfl

set_option maxRecDepth 100000 in
theorem cy_lo0 (room : Int) (n : Nat) (x : Nat → Int) : stepXS kCh [(4, { op := [(11, 11, .br true), (12, 11, .br true)], gd := [(11, 6, true), (11, 7, true), (11, 8, true), (11, 9, true), (11, 10, true), (12, 6, true), (12, 7, true), (12, 8, true), (12, 9, true), (12, 10, true)], br := [(34, true)], ob := [(11, 2), (12, 2)] })] Try.prog 4 9 (crG0 room n x) (crN) [] 0 [] =
   some (.ret,
   (decide ((0 : Int) < (↑n : Int)) = true) ::
   ((0 : Int) ≤ (0 : Int) ∧ (0 : Int) < (↑n : Int)) ::
   rp 6 (decide (x 0 < (1 : Int)) = true) (
   ((0 : Int) ≤ (0 : Int) ∧ (0 : Int) < (↑n : Int)) ::
   rp 6 (decide (x 0 < (1 : Int)) = true) (
   (AV.val (Value.bool true) = AV.val (Value.bool true)) :: []))) := by kernel_rfl

set_option maxRecDepth 100000 in
theorem cy_hi0 (room : Int) (n : Nat) (x : Nat → Int) : stepXS kCh [(4, { op := [(11, 11, .br false), (11, 24, .br true), (12, 11, .br false)], gd := [(11, 6, false), (11, 7, false), (11, 8, false), (11, 9, false), (11, 10, false), (11, 13, true), (11, 14, true), (11, 15, true), (11, 16, true), (11, 17, true), (11, 18, true), (11, 19, true), (11, 20, true), (11, 21, true), (11, 22, true), (11, 23, true), (12, 6, false), (12, 7, false), (12, 8, false), (12, 9, false), (12, 10, false)], br := [(34, true)], ob := [(11, 2), (11, 8), (12, 2), (12, 8)] })] Try.prog 4 9 (crG0 room n x) (crN) [] 0 [] =
   some (.ret,
   (decide ((0 : Int) < (↑n : Int)) = true) ::
   ((0 : Int) ≤ (0 : Int) ∧ (0 : Int) < (↑n : Int)) ::
   rp 3 (decide (x 0 < (1 : Int)) = false) (
   ((0 : Int) ≤ (0 : Int) ∧ (0 : Int) < (↑n : Int)) ::
   rp 3 (decide (x 0 < (1 : Int)) = false) (
   rp 12 (decide (x 0 > (1000 : Int)) = true) (
   ((0 : Int) ≤ (0 : Int) ∧ (0 : Int) < (↑n : Int)) ::
   rp 3 (decide (x 0 < (1 : Int)) = false) (
   ((0 : Int) ≤ (0 : Int) ∧ (0 : Int) < (↑n : Int)) ::
   rp 3 (decide (x 0 < (1 : Int)) = false) (
   (AV.val (Value.bool (decide (x 0 > (1000 : Int)))) = AV.val (Value.bool true)) :: [])))))) := by kernel_rfl

set_option maxRecDepth 100000 in
theorem cy_end (room : Int) (n : Nat) (x : Nat → Int) (l : List (Nat × Int)) : stepXS kCh [(4, { br := [(34, false)] })] Try.prog 4 9 (crG room n x n l) (crE room n x l) [0, 1] 0 [] =
   some (.exit 0,
   (decide ((↑n : Int) < (↑n : Int)) = false) ::
   (AV.val (Value.int IntKind.i64 room) = AV.val (Value.int IntKind.i64 room)) ::
   ((AV.view 1 n fun k => [AV.val (Value.int IntKind.u32 (x k))]) = AV.view 1 n fun i => [AV.val (Value.int IntKind.u32 (x i))]) ::
   (SameO (some { t := 109, sz := 2, exact := true, fz := false, body := Body.rows [[AV.val (Value.int IntKind.i64 room), AV.sl 1 0 (List.length l) none]] }) { t := 109, sz := 2, exact := true, fz := false, body := Body.rows [[AV.val (Value.int IntKind.i64 room), AV.sl 1 0 (List.length l) none]] }) ::
   (SameO (some { t := 114, sz := 11, exact := false, fz := false, body := Body.flat (krows l) }) { t := 114, sz := 11, exact := false, fz := false, body := Body.flat (List.map (fun x => (AV.brecOn_1.go x (AV.ren._f (renX 0 [0, 1] 6)) (renL._f (renX 0 [0, 1] 6))).1) (krows l)) }) :: []) := by kernel_rfl

set_option maxRecDepth 100000 in
theorem cy_end0 (room : Int) (n : Nat) (x : Nat → Int) : stepXS kCh [(4, { br := [(34, false)] })] Try.prog 4 9 (crG0 room n x) (crE0 room n x) [0] 0 [] =
   some (.exit 0,
   (decide ((0 : Int) < (↑n : Int)) = false) ::
   (AV.val (Value.int IntKind.i64 room) = AV.val (Value.int IntKind.i64 room)) ::
   ((AV.view 1 n fun k => [AV.val (Value.int IntKind.u32 (x k))]) = AV.view 1 n fun i => [AV.val (Value.int IntKind.u32 (x i))]) ::
   (SameO (some { t := 109, sz := 2, exact := true, fz := false, body := Body.rows [[AV.val (Value.int IntKind.i64 room), AV.val (Value.slice none 0 0)]] }) { t := 109, sz := 2, exact := true, fz := false, body := Body.rows [[AV.val (Value.int IntKind.i64 room), AV.val (Value.slice none 0 0)]] }) :: []) := by kernel_rfl
end Go.Proofs.Ytmilcpejchjleaa

/- The law CacheRoom: its loop, walked: what is kept round by round. -/
set_option linter.unusedSimpArgs false
set_option linter.unusedVariables false
namespace Go.Proofs.Ytmilcpejchjleaa.cacheRoom
open Go.RowKit

theorem fK_no (o : Nat) : ∀ (l : List (Nat × Int)) (k : Nat), (∀ x ∈ l, x.1 ≠ o) → fK o l k = -1
  | [], _, _ => rfl
  | x :: l, k, h => by
    unfold fK
    rw [if_neg (h x List.mem_cons_self)]
    exact fK_no o l (k + 1) fun y hy => h y (List.mem_cons_of_mem _ hy)
theorem fK_last (o : Nat) (t : Int) : ∀ (a : List (Nat × Int)) (k : Nat), (∀ x ∈ a, x.1 ≠ o) → fK o (a ++ [(o, t)]) k = ((k + a.length : Nat) : Int)
  | [], k, _ => by
    show fK o [(o, t)] k = _
    unfold fK
    rw [if_pos rfl]
    rfl
  | x :: a, k, h => by
    show fK o (x :: (a ++ [(o, t)])) k = _
    unfold fK
    rw [if_neg (h x List.mem_cons_self), fK_last o t a (k + 1) fun y hy => h y (List.mem_cons_of_mem _ hy)]
    simp only [List.length_cons]
    omega

/-- what is kept behind i rounds, i being at least one: the last one is there, behind others before it -/
def Inv (room : Nat) (x : Nat → Int) (i : Nat) (l : List (Nat × Int)) : Prop :=
  0 < i ∧ l.length = min i room ∧ ∃ a, l = a ++ [(i - 1, x (i - 1))] ∧ (∀ y ∈ a, y.1 < i - 1) ∧ ∀ y ∈ l, 0 < y.2 ∧ y.2 ≤ 1000
theorem Inv.lt {room : Nat} {x : Nat → Int} {i : Nat} {l : List (Nat × Int)} (h : Inv room x i l) : ∀ y ∈ l, y.1 < i := by
  obtain ⟨h0, -, a, rfl, h2, -⟩ := h
  intro y hy
  rcases List.mem_append.1 hy with hy | hy
  · have := h2 y hy
    omega
  · rw [List.mem_singleton.1 hy]
    show i - 1 < i
    omega
theorem Inv.grow {room : Nat} {x : Nat → Int} {i : Nat} {l : List (Nat × Int)} (h : Inv room x i l) (hl : l.length < room) (hx : 0 < x i ∧ x i ≤ 1000) : Inv room x (i + 1) (l ++ [(i, x i)]) := by
  have hlt := h.lt
  obtain ⟨h0, h1, a, e, h2, h3⟩ := h
  refine ⟨by omega, by simp only [List.length_append, List.length_cons, List.length_nil]; omega, l, rfl, hlt, fun y hy => ?_⟩
  rcases List.mem_append.1 hy with hy | hy
  · exact h3 y hy
  · rw [List.mem_singleton.1 hy]
    exact hx
theorem Inv.full {room : Nat} {x : Nat → Int} {i : Nat} {l : List (Nat × Int)} (h : Inv room x i l) (hl : l.length = room) (f : Nat) (hf : f < l.length) (hx : 0 < x i ∧ x i ≤ 1000) : Inv room x (i + 1) (l.eraseIdx f ++ [(i, x i)]) := by
  have hlt := h.lt
  obtain ⟨h0, h1, a, e, h2, h3⟩ := h
  have hm : ∀ y ∈ l.eraseIdx f, y ∈ l := fun y hy => List.mem_of_mem_eraseIdx hy
  refine ⟨by omega, by simp only [List.length_append, List.length_cons, List.length_nil, List.length_eraseIdx_of_lt hf]; omega, l.eraseIdx f, rfl, fun y hy => hlt y (hm y hy), fun y hy => ?_⟩
  rcases List.mem_append.1 hy with hy | hy
  · exact h3 y (hm y hy)
  · rw [List.mem_singleton.1 hy]
    exact hx
theorem Inv.first (room : Nat) (hr : 0 < room) (x : Nat → Int) (hx : 0 < x 0 ∧ x 0 ≤ 1000) : Inv room x 1 [(0, x 0)] :=
  ⟨by omega, by simp only [List.length_cons, List.length_nil]; omega, [], rfl, fun y hy => (by cases hy), fun y hy => by
    rw [List.mem_singleton.1 hy]
    exact hx⟩

theorem keep_over (l : List (List AV)) (z y : List AV) {n : Nat} (h : l.length = n) : List.take n (l ++ [z]) ++ [y] ++ List.drop (n + 1) (l ++ [z]) = l ++ [y] := by
  subst h
  rw [List.take_left, List.drop_of_length_le (by simp), List.append_nil]

set_option maxHeartbeats 2000000 in
theorem cr_loop (room n : Nat) (x : Nat → Int) (h30 : room ≤ 30) (h60 : n ≤ 60) (hr : 0 < room) (hx : ∀ i, 0 ≤ x i ∧ x i < 4294967296) : ∀ (k i : Nat) (l : List (Nat × Int)), i + k = n → Inv room x i l →
    (∃ l', Inv room x n l' ∧ EvXL Try.prog 0 (loopAt Try.prog 4 9) ((crG room n x i l).st 0) (.exit 0) ((crE room n x l').st 0)) ∨
    EvXL Try.prog 0 (loopAt Try.prog 4 9) ((crG room n x i l).st 0) .ret (crN.st 0)
  | 0, i, l, hk, hI => by
    obtain rfl : i = n := by omega
    refine .inl ⟨l, hI, EvXL.last (stepXS_ok kCh_ok (cy_end room i x l) ?_) (by simp)⟩
    repeat' (first | exact allNil | refine allCons ?_ ?_ | (with_reducible refine allRp _ ?_ ?_))
    all_goals first | (with_reducible rfl) | exact decide_eq_false (by omega) | exact same_kr (fun _ => rfl) rfl | exact rfl
  | k + 1, i, l, hk, hI => by
    have hlt := hI.lt
    have hi : i < 64 := by omega
    have h128 : ∀ y ∈ l, y.1 < 128 := fun y hy => by have := hlt y hy; omega
    have h64 : ∀ y ∈ l, y.1 < 64 := fun y hy => by have := hlt y hy; omega
    have hka := kal_krows h128
    have hun : unN (vS [nmB i]) = i := unN_nm (by omega)
    have hno : fK i l 0 = -1 := fK_no i l 0 fun y hy => by have := hlt y hy; omega
    have hlen := hI.2.1
    have hxi := hx i
    by_cases h1 : x i < 1
    · refine .inr (EvXL.last (stepXS_ok kCh_ok (cy_lo room n x i l) ?_) (by simp))
      repeat' (first | exact allNil | refine allCons ?_ ?_ | (with_reducible refine allRp _ ?_ ?_))
      all_goals first | (with_reducible rfl) | exact decide_eq_true (by omega) | exact decide_eq_false (by omega) | omega | (rw [decide_eq_true h1]) | exact rfl
    by_cases h2 : x i > 1000
    · refine .inr (EvXL.last (stepXS_ok kCh_ok (cy_hi room n x i l) ?_) (by simp))
      repeat' (first | exact allNil | refine allCons ?_ ?_ | (with_reducible refine allRp _ ?_ ?_))
      all_goals first | (with_reducible rfl) | exact decide_eq_true (by omega) | exact decide_eq_false (by omega) | omega | (rw [decide_eq_true h2]) | exact rfl
    have hmin : (if x i < (86400 : Int) then x i else (86400 : Int)) = x i := if_pos (by omega)
    have e1 : IntKind.wrap IntKind.i64 (x i) = x i := w64 _ (by omega)
    have e2 : IntKind.wrap IntKind.i64 (0 + x i) = x i := by rw [w64 _ (by omega)]; omega
    by_cases h3 : l.length < room
    · have hs : EvX Try.prog 0 (loopAt Try.prog 4 9) ((crG room n x i l).st 0) .normal ((crG room n x (i + 1) (l ++ [(i, x i)])).st 0) := by
        refine stepXS_ok kCh_ok (cy_grow room n x i l) ?_
        simp only [hmin, e1, e2, hka, hun, hno, lsOf_vS, ofVR_v, Int.toNat_natCast, List.getD_cons_zero, krows_len]
        repeat' (first | exact allNil | refine allCons ?_ ?_ | (with_reducible refine allRp _ ?_ ?_))
        all_goals first | exact True.intro | (with_reducible rfl) | exact decide_eq_true (by omega) | exact decide_eq_false (by omega) | omega | exact h64 | exact sI_succ i (by omega) | exact beq_eq_false_iff_ne.2 (by omega) | exact same_kr (fun _ => rfl) (by rw [krows_app]; rfl) | (simp only [List.length_append]; exact rfl) | exact rfl
      rcases cr_loop room n x h30 h60 hr hx k (i + 1) _ (by omega) (hI.grow h3 ⟨by omega, by omega⟩) with ⟨l', j1, j2⟩ | j
      · exact .inl ⟨l', j1, EvXL.step hs j2⟩
      · exact .inr (EvXL.step hs j)
    · have hll : l.length = room := by omega
      have hf := frst_lt l l.length 0 0 (by omega) (by omega)
      have hel : (l.eraseIdx (frst l l.length 0 0)).length = l.length - 1 := List.length_eraseIdx_of_lt hf
      have hs : EvX Try.prog 0 (loopAt Try.prog 4 9) ((crG room n x i l).st 0) .normal ((crG room n x (i + 1) (l.eraseIdx (frst l l.length 0 0) ++ [(i, x i)])).st 0) := by
        refine stepXS_ok kCm_ok (cy_full room n x i l) ?_
        simp only [hmin, e1, e2, hka, hun, hno, lsOf_vS, ofVR_v, Int.toNat_natCast, List.getD_cons_zero, krows_len]
        repeat' (first | exact allNil | refine allCons ?_ ?_ | (with_reducible refine allRp _ ?_ ?_))
        all_goals first | exact True.intro | (with_reducible rfl) | exact decide_eq_true (by omega) | exact decide_eq_false (by omega) | omega | exact h64 | exact sI_succ i (by omega) | exact beq_eq_false_iff_ne.2 (by omega) | exact same_kr (fun _ => rfl) (by rw [keep_over _ _ _ (by rw [krows_len, hel]), krows_app]; rfl) | (simp only [List.length_append, krows_len, hel, List.length_cons, List.length_nil]; exact rfl) | (simp only [List.length_append, krows_len, hel, List.length_cons, List.length_nil]; omega) | exact rfl
      rcases cr_loop room n x h30 h60 hr hx k (i + 1) _ (by omega) (hI.full hll _ hf ⟨by omega, by omega⟩) with ⟨l', j1, j2⟩ | j
      · exact .inl ⟨l', j1, EvXL.step hs j2⟩
      · exact .inr (EvXL.step hs j)

/-- the whole loop: without answers; otherwise -/
theorem cr_none (room : Nat) (x : Nat → Int) : EvXL Try.prog 0 (loopAt Try.prog 4 9) ((crG0 room 0 x).st 0) (.exit 0) ((crE0 room 0 x).st 0) := by
  refine EvXL.last (stepXS_ok kCh_ok (cy_end0 room 0 x) ?_) (by simp)
  repeat' (first | exact allNil | refine allCons ?_ ?_ | (with_reducible refine allRp _ ?_ ?_))
  all_goals first | (with_reducible rfl) | exact decide_eq_false (by omega) | exact rfl
theorem cr_all (room n : Nat) (x : Nat → Int) (h30 : room ≤ 30) (h60 : n ≤ 60) (hr : 0 < room) (hn : 0 < n) (hx : ∀ i, 0 ≤ x i ∧ x i < 4294967296) :
    (∃ l', Inv room x n l' ∧ EvXL Try.prog 0 (loopAt Try.prog 4 9) ((crG0 room n x).st 0) (.exit 0) ((crE room n x l').st 0)) ∨
    EvXL Try.prog 0 (loopAt Try.prog 4 9) ((crG0 room n x).st 0) .ret (crN.st 0) := by
  have hxi := hx 0
  by_cases h1 : x 0 < 1
  · refine .inr (EvXL.last (stepXS_ok kCh_ok (cy_lo0 room n x) ?_) (by simp))
    repeat' (first | exact allNil | refine allCons ?_ ?_ | (with_reducible refine allRp _ ?_ ?_))
    all_goals first | (with_reducible rfl) | exact decide_eq_true (by omega) | exact decide_eq_false (by omega) | omega | (rw [decide_eq_true h1]) | exact rfl
  by_cases h2 : x 0 > 1000
  · refine .inr (EvXL.last (stepXS_ok kCh_ok (cy_hi0 room n x) ?_) (by simp))
    repeat' (first | exact allNil | refine allCons ?_ ?_ | (with_reducible refine allRp _ ?_ ?_))
    all_goals first | (with_reducible rfl) | exact decide_eq_true (by omega) | exact decide_eq_false (by omega) | omega | (rw [decide_eq_true h2]) | exact rfl
  have hmin : (if x 0 < (86400 : Int) then x 0 else (86400 : Int)) = x 0 := if_pos (by omega)
  have e1 : IntKind.wrap IntKind.i64 (x 0) = x 0 := w64 _ (by omega)
  have e2 : IntKind.wrap IntKind.i64 (0 + x 0) = x 0 := by rw [w64 _ (by omega)]; omega
  have hz : Int.toNat (0 : Int) = 0 := rfl
  have h0 : EvX Try.prog 0 (loopAt Try.prog 4 9) ((crG0 room n x).st 0) .normal ((crG1 room n x (0, x 0)).st 0) := by
    refine stepXS_ok kCh_ok (cy_first room n x) ?_
    simp only [hmin, e1, e2, lsOf_vS, ofVR_v, hz, List.getD_cons_zero]
    repeat' (first | exact allNil | refine allCons ?_ ?_ | (with_reducible refine allRp _ ?_ ?_))
    all_goals first | exact True.intro | (with_reducible rfl) | exact decide_eq_true (by omega) | exact decide_eq_false (by omega) | omega | exact beq_eq_false_iff_ne.2 (by omega) | exact rfl
  have hs : EvX Try.prog 0 (loopAt Try.prog 4 9) ((crG0 room n x).st 0) .normal ((crG room n x 1 [(0, x 0)]).st 0) :=
    EvX.flat h0 rfl rfl rfl ⟨rfl, ⟨rfl, rfl, rfl, rfl, rfl, fun _ _ => rfl⟩, rfl, ⟨rfl, rfl, rfl, rfl, rfl, fun _ _ => rfl⟩, True.intro⟩
  rcases cr_loop room n x h30 h60 hr hx (n - 1) 1 _ (by omega) (Inv.first room hr x ⟨by omega, by omega⟩) with ⟨l', j1, j2⟩ | j
  · exact .inl ⟨l', j1, EvXL.step hs j2⟩
  · exact .inr (EvXL.step hs j)
end Go.Proofs.Ytmilcpejchjleaa.cacheRoom

/- The law CacheRoom, walked: whatever is given, it answers true. -/
set_option linter.unusedSimpArgs false
set_option linter.unusedVariables false
namespace Go.Proofs.Ytmilcpejchjleaa.cacheRoom
open Go.RowKit

set_option maxRecDepth 100000 in
set_option maxHeartbeats 4000000 in
theorem walk (room : Int) (n : Nat) (x : Nat → Int) (hx : ∀ i, 0 ≤ x i ∧ x i < 4294967296) : ∃ L' nx', ACall Try.prog 4 [iI room, seqU n x] [] 0 (.val (.bool true)) L' nx' := by
  by_cases h1 : room < 1
  · refine ⟨_, _, outXS_ok kCh_ok (cx_r0 room n x) ?_⟩
    repeat' (first | exact allNil | refine allCons ?_ ?_ | (with_reducible refine allRp _ ?_ ?_))
    all_goals first | exact decide_eq_true (by omega) | exact decide_eq_false (by omega) | exact rfl
  by_cases h2 : room > 30
  · refine ⟨_, _, outXS_ok kCh_ok (cx_r31 room n x) ?_⟩
    repeat' (first | exact allNil | refine allCons ?_ ?_ | (with_reducible refine allRp _ ?_ ?_))
    all_goals first | exact decide_eq_true (by omega) | exact decide_eq_false (by omega) | exact rfl
  by_cases h3 : n > 60
  · refine ⟨_, _, outXS_ok kCh_ok (cx_n61 room n x) ?_⟩
    repeat' (first | exact allNil | refine allCons ?_ ?_ | (with_reducible refine allRp _ ?_ ?_))
    all_goals first | exact decide_eq_true (by omega) | exact decide_eq_false (by omega) | exact rfl
  obtain ⟨r, rfl⟩ : ∃ r : Nat, room = r := ⟨room.toNat, by omega⟩
  by_cases h4 : n = 0
  · subst h4
    have L := cr_none r x
    refine ⟨_, _, outXS_ok kCh_ok (cx_none r 0 x) ?_⟩
    repeat' (first | exact allNil | refine allCons ?_ ?_ | (with_reducible refine allRp _ ?_ ?_))
    all_goals first | (with_reducible rfl) | exact L | exact decide_eq_true (by omega) | exact decide_eq_false (by omega) | exact rfl
  rcases cr_all r n x (by omega) (by omega) (by omega) (by omega) hx with ⟨l, hI, L⟩ | L
  case inr =>
    refine ⟨_, _, outXS_ok kCh_ok (cx_ret r n x) ?_⟩
    repeat' (first | exact allNil | refine allCons ?_ ?_ | (with_reducible refine allRp _ ?_ ?_))
    all_goals first | (with_reducible rfl) | exact L | exact decide_eq_true (by omega) | exact decide_eq_false (by omega) | exact rfl
  have hlt := hI.lt
  obtain ⟨h0, hlen, a, ha, hb, hp⟩ := hI
  have h128 : ∀ y ∈ l, y.1 < 128 := fun y hy => by have := hlt y hy; omega
  have h64 : ∀ y ∈ l, y.1 < 64 := fun y hy => by have := hlt y hy; omega
  have hka := kal_krows h128
  have e1 : Int.toNat (IntKind.wrap IntKind.i64 ((n : Int) - 1)) = n - 1 := by rw [w64 _ (by omega)]; omega
  have e2 : IntKind.wrap IntKind.i64 ((n : Int) - 1) = ((n - 1 : Nat) : Int) := by rw [w64 _ (by omega)]; omega
  have hun : unN (vS [nmB (n - 1)]) = n - 1 := unN_nm (by omega)
  have hal : l.length = a.length + 1 := by rw [ha]; simp
  have hf : fK (n - 1) l 0 = (a.length : Int) := by
    rw [ha, fK_last _ _ _ _ fun y hy => by have := hb y hy; omega, Nat.zero_add]
  have hg : l[a.length]? = some (n - 1, x (n - 1)) := by
    rw [ha, List.getElem?_append_right (Nat.le_refl _), Nat.sub_self]
    rfl
  have hgk := krows_get hg
  have ht := hp (n - 1, x (n - 1)) (by rw [ha]; simp)
  have ht : 0 < x (n - 1) ∧ x (n - 1) ≤ 1000 := ht
  have hpos : ∀ y ∈ l, (0 : Int) < y.2 := fun y hy => (hp y hy).1
  by_cases h5 : (n : Int) > r
  · refine ⟨_, _, outXS_ok kCh_ok (cx_gt r n x l (n - 1) (x (n - 1))) ?_⟩
    simp only [hka, e1, e2, hun, hf, lsOf_vS, ofVR_v, Int.toNat_natCast, List.getD_cons_zero, krows_len, Nat.zero_add]
    repeat' (first | exact allNil | refine allCons ?_ ?_ | (with_reducible refine allRp _ ?_ ?_))
    all_goals first | exact True.intro | (with_reducible rfl) | exact L | exact hgk | exact hpos | exact h64 | exact decide_eq_true (by omega) | exact decide_eq_false (by omega) | omega | exact beq_eq_false_iff_ne.2 (by omega) | exact bne_eq_false_iff_eq.2 (by omega) | (rw [decide_eq_true ht.1]; rfl) | exact rfl
  · refine ⟨_, _, outXS_ok kCh_ok (cx_le r n x l (n - 1) (x (n - 1))) ?_⟩
    simp only [hka, e1, e2, hun, hf, lsOf_vS, ofVR_v, Int.toNat_natCast, List.getD_cons_zero, krows_len, Nat.zero_add]
    repeat' (first | exact allNil | refine allCons ?_ ?_ | (with_reducible refine allRp _ ?_ ?_))
    all_goals first | exact True.intro | (with_reducible rfl) | exact L | exact hgk | exact hpos | exact h64 | exact decide_eq_true (by omega) | exact decide_eq_false (by omega) | omega | exact beq_eq_false_iff_ne.2 (by omega) | exact bne_eq_false_iff_eq.2 (by omega) | (rw [decide_eq_true ht.1]; rfl) | exact rfl

/-- as the law is handed its arguments -/
theorem walk' (room : Int) (n : Nat) (g : Nat → List AV) (h : ∀ i, i < n → ∃ z : Int, (0 ≤ z ∧ z < 4294967296) ∧ g i = [.val (.int .u32 z)]) : ∃ L' nx', ACall Try.prog 4 [iI room, .view 1 n g] [] 0 (.val (.bool true)) L' nx' := by
  obtain ⟨L', nx', hc⟩ := walk room n (fun i => if i < n then (match g i with | [.val (.int .u32 z)] => z | _ => 0) else 0) (fun i => by
    split
    · rename_i hi
      obtain ⟨z, hz, e⟩ := h i hi
      rw [e]
      exact hz
    · omega)
  refine ⟨L', nx', hc.args rfl fun E w k a a' u h1 h2 r => ?_⟩
  match k with
  | 0 =>
    simp at h1 h2
    subst h1 h2
    exact r
  | 1 =>
    simp at h1 h2
    subst h1 h2
    refine Rep.view_congr (fun i hi => ?_) r
    obtain ⟨z, _, hz⟩ := h i hi
    simp [hz, hi, iU]
  | k + 2 => simp at h1
end Go.Proofs.Ytmilcpejchjleaa.cacheRoom
