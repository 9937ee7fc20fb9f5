/- Several texts in one: TuRun, TtRun, Tp, Flt. -/
import Derived.Test.YtecmagdefllihaaMts
import Derived.Test.YtecmagdefllihaaEza
import Derived.Test.YtecmagdefllihaaFx
import Derived.Test.YtecmagdefllihaaRp

/- The law TrackRoom (main runs). No condition. -/
namespace Go.Proofs.Ytecmagdefllihaa
open Go.RowKit

set_option maxRecDepth 100000 in
theorem tu_r0 (room : Int) (over : Int) (more : Int) : outXS kRm [(7, { op := [(3, 5, .br true)], gd := [(3, 3, true), (3, 4, true)] })] Try.prog 7 [AV.val (Value.int IntKind.i64 room), AV.val (Value.int IntKind.i64 over), AV.val (Value.int IntKind.i64 more)] [] 0 [] [] =
   some (AV.val (Value.bool true), [], 27,
   rp 3 (decide (room < (1 : Int)) = true) ( [])) := by kernel_rfl

set_option maxRecDepth 100000 in
theorem tu_r61 (room : Int) (over : Int) (more : Int) : outXS kRm [(7, { op := [(3, 5, .br false), (3, 9, .br true)], gd := [(3, 3, false), (3, 4, false), (3, 7, true), (3, 8, true)] })] Try.prog 7 [AV.val (Value.int IntKind.i64 room), AV.val (Value.int IntKind.i64 over), AV.val (Value.int IntKind.i64 more)] [] 0 [] [] =
   some (AV.val (Value.bool true), [], 27,
   rp 3 (decide (room < (1 : Int)) = false) (
   rp 3 (decide (room > (60 : Int)) = true) ( []))) := by kernel_rfl

set_option maxRecDepth 100000 in
theorem tu_o0 (room : Int) (over : Int) (more : Int) : outXS kRm [(7, { op := [(3, 5, .br false), (3, 9, .br false), (3, 14, .br true)], gd := [(3, 3, false), (3, 4, false), (3, 7, false), (3, 8, false), (3, 11, true), (3, 12, true), (3, 13, true)] })] Try.prog 7 [AV.val (Value.int IntKind.i64 room), AV.val (Value.int IntKind.i64 over), AV.val (Value.int IntKind.i64 more)] [] 0 [] [] =
   some (AV.val (Value.bool true), [], 27,
   rp 3 (decide (room < (1 : Int)) = false) (
   rp 3 (decide (room > (60 : Int)) = false) (
   rp 4 (decide (over < (0 : Int)) = true) ( [])))) := by kernel_rfl

set_option maxRecDepth 100000 in
theorem tu_o3 (room : Int) (over : Int) (more : Int) : outXS kRm [(7, { op := [(3, 5, .br false), (3, 9, .br false), (3, 14, .br false), (3, 18, .br true)], gd := [(3, 3, false), (3, 4, false), (3, 7, false), (3, 8, false), (3, 11, false), (3, 12, false), (3, 13, false), (3, 16, true), (3, 17, true)] })] Try.prog 7 [AV.val (Value.int IntKind.i64 room), AV.val (Value.int IntKind.i64 over), AV.val (Value.int IntKind.i64 more)] [] 0 [] [] =
   some (AV.val (Value.bool true), [], 27,
   rp 3 (decide (room < (1 : Int)) = false) (
   rp 3 (decide (room > (60 : Int)) = false) (
   rp 4 (decide (over < (0 : Int)) = false) (
   rp 3 (decide (over ≥ room) = true) ( []))))) := by kernel_rfl

set_option maxRecDepth 100000 in
theorem tu_m0 (room : Int) (over : Int) (more : Int) : outXS kRm [(7, { op := [(3, 5, .br false), (3, 9, .br false), (3, 14, .br false), (3, 18, .br false), (3, 22, .br true)], gd := [(3, 3, false), (3, 4, false), (3, 7, false), (3, 8, false), (3, 11, false), (3, 12, false), (3, 13, false), (3, 16, false), (3, 17, false), (3, 20, true), (3, 21, true)] })] Try.prog 7 [AV.val (Value.int IntKind.i64 room), AV.val (Value.int IntKind.i64 over), AV.val (Value.int IntKind.i64 more)] [] 0 [] [] =
   some (AV.val (Value.bool true), [], 27,
   rp 3 (decide (room < (1 : Int)) = false) (
   rp 3 (decide (room > (60 : Int)) = false) (
   rp 4 (decide (over < (0 : Int)) = false) (
   rp 3 (decide (over ≥ room) = false) (
   rp 3 (decide (more < (1 : Int)) = true) ( [])))))) := by kernel_rfl

set_option maxRecDepth 100000 in
theorem tu_m2 (room : Int) (over : Int) (more : Int) : outXS kRm [(7, { op := [(3, 5, .br false), (3, 9, .br false), (3, 14, .br false), (3, 18, .br false), (3, 22, .br false)], gd := [(3, 3, false), (3, 4, false), (3, 7, false), (3, 8, false), (3, 11, false), (3, 12, false), (3, 13, false), (3, 16, false), (3, 17, false), (3, 20, false), (3, 21, false)], br := [(35, true)] })] Try.prog 7 [AV.val (Value.int IntKind.i64 room), AV.val (Value.int IntKind.i64 over), AV.val (Value.int IntKind.i64 more)] [] 0 [] [] =
   some (AV.val (Value.bool true), [], 27,
   rp 3 (decide (room < (1 : Int)) = false) (
   rp 3 (decide (room > (60 : Int)) = false) (
   rp 4 (decide (over < (0 : Int)) = false) (
   rp 3 (decide (over ≥ room) = false) (
   rp 3 (decide (more < (1 : Int)) = false) (
   (decide (more > (1 : Int)) = true) :: [])))))) := by kernel_rfl

set_option maxRecDepth 100000 in
theorem tu_mid (room : Int) (over : Int) (more : Int) (l : List (Int × Int)) (k : List (Int × Int)) : outXS kRm [(17, { op := [(10, 3, Hn.row (trow (over, (1 : Int)))), (13, 3, Hn.row (trow (over, (6 : Int))))] }), (45, { op := [(5, 7, Hn.inn)], br := [(14, true)] }), (43, { ob := [(1, 5)] }), (7, { op := [(3, 5, .br false), (3, 9, .br false), (3, 14, .br false), (3, 18, .br false), (3, 22, .br false), (19, 9, .br true)], gd := [(3, 3, false), (3, 4, false), (3, 7, false), (3, 8, false), (3, 11, false), (3, 12, false), (3, 13, false), (3, 16, false), (3, 17, false), (3, 20, false), (3, 21, false), (19, 5, true), (19, 6, true), (19, 7, true), (19, 8, true)], br := [(35, false)], ob := [(12, 4), (13, 3), (19, 1), (19, 7)] }), (13000017, { op := [(2, 7, .br false), (10, 3, Hn.row (trow (over, (1 : Int)))), (13, 3, Hn.row (trow (over, (6 : Int))))], gd := [(2, 3, false), (2, 4, false), (2, 5, false), (2, 6, false)], br := [(40, false)], ob := [(1, 4), (7, 5)] }), (80000017, { op := [(2, 7, .br true), (10, 3, Hn.row (trow (over, (1 : Int)))), (13, 3, Hn.row (trow (over, (6 : Int))))], gd := [(2, 3, true), (2, 4, true), (2, 5, true), (2, 6, true)], ob := [(1, 4), (3, 6)] }), (19, { op := [(4, 7, Hn.row (trow ((1000 : Int), (1 : Int))))], br := [(16, false)], ob := [(1, 4), (4, 5)] }), (16, { op := [(1, 5, .br false)], gd := [(1, 3, false), (1, 4, false)], br := [(9, false)] }), (80, { op := [(5, 6, Hn.inn), (6, 5, Hn.inn)], br := [(16, false)], ob := [(1, 5), (5, 2), (5, 5), (6, 4)] })] Try.prog 7 [AV.val (Value.int IntKind.i64 room), AV.val (Value.int IntKind.i64 over), AV.val (Value.int IntKind.i64 more)] [] 0 [] [(9, trLL room over l 43), (15, tsL room over k 1)] = some (AV.val (Value.bool true), [], 56, rp 3 (decide (room < (1 : Int)) = false) ( rp 3 (decide (room > (60 : Int)) = false) ( rp 4 (decide (over < (0 : Int)) = false) ( rp 3 (decide (over ≥ room) = false) ( rp 3 (decide (more < (1 : Int)) = false) ( (decide (more > (1 : Int)) = false) ::
    rp 3 (decide (room < (1 : Int)) = false) ( (decide (room > (256 : Int)) = false) ::
    (AV.val (Value.int IntKind.i64 room) = AV.val (Value.int IntKind.i64 room)) ::
    (AV.val (Value.int IntKind.i64 over) = AV.val (Value.int IntKind.i64 over)) ::
    (AV.val (Value.int IntKind.i64 (0 : Int)) = AV.val (Value.int IntKind.i64 (0 : Int))) ::
    (SameO (some { t := 88, sz := 2, exact := true, fz := false, body := Body.rows [[AV.val (Value.int IntKind.i64 room), AV.val (Value.slice none 0 0)]] }) { t := 88, sz := 2, exact := true, fz := false, body := Body.rows [[AV.val (Value.int IntKind.i64 room), AV.val (Value.slice none 0 0)]] }) ::
    (EvXL Try.prog 0 (loopAt Try.prog 7 9) (GoalX.st (LoopX.G (trLL room over l 43)) 0) (LoopX.ex (trLL room over l 43)) (GoalX.st (LoopX.E (trLL room over l 43)) 0)) ::
    (trows l = trows (tal (trows l))) ::
    (List.length l = List.length (trows l)) ::
    (List.length l ≤ 1000000) ::
    rp 6 (decide (fIx over (tal (trows l)) 0 < (0 : Int)) = false) ( ((0 : Int) ≤ fIx over (tal (trows l)) 0 ∧ fIx over (tal (trows l)) 0 < (↑(List.length l) : Int)) ::
    ((trows l)[0 + Int.toNat (fIx over (tal (trows l)) 0)]? = some [AV.val (Value.int IntKind.i64 over), AV.val (Value.int IntKind.u8 (8 : Int)), AV.val (Value.int IntKind.u8 (8 : Int)), AV.val (Value.int IntKind.u8 (8 : Int)), AV.val (Value.int IntKind.u8 (1 : Int)), AV.val (Value.int IntKind.i64 (80 : Int)), AV.val (Value.int IntKind.i64 (1 : Int)), AV.val (Value.bool false)]) ::
    ((rwO l over)[0 + Int.toNat (fIx over (tal (trows l)) 0)]? = some [AV.val (Value.int IntKind.i64 over), AV.val (Value.int IntKind.u8 (8 : Int)), AV.val (Value.int IntKind.u8 (8 : Int)), AV.val (Value.int IntKind.u8 (8 : Int)), AV.val (Value.int IntKind.u8 (1 : Int)), AV.val (Value.int IntKind.i64 (80 : Int)), AV.val (Value.int IntKind.i64 (6 : Int)), AV.val (Value.bool false)]) ::
    (rwO l over = trows (tal (rwO l over))) ::
    (List.length l = List.length (rwO l over)) ::
    (List.length l ≤ 1000000) ::
    rp 5 (decide (fIx (1000 : Int) (tal (rwO l over)) 0 < (0 : Int)) = true) ( (decide ((↑(List.length l) : Int) ≥ room) = true) ::
    (rwO l over = trows (tal (rwO l over))) ::
    (List.length l = List.length (rwO l over)) ::
    (List.length l ≤ 1000000) ::
    ((0 : Int) ≤ fIy (tal (rwO l over)) 0) ::
    ((0 : Int) ≤ exO l over) ::
    ((0 : Int) ≤ e1O l over) ::
    ((0 : Int) ≤ (↑(List.length l) : Int)) ::
    (Int.toNat (exO l over) ≤ Int.toNat (e1O l over) ∧ Int.toNat (e1O l over) ≤ List.length l ∧ 0 + List.length l ≤ List.length (rwO l over)) ::
    (((exO l over) == e1O l over) = false) ::
    ((0 : Int) ≤ (0 : Int)) ::
    ((0 : Int) ≤ exO l over) ::
    (0 ≤ Int.toNat (exO l over) ∧ 0 + Int.toNat (exO l over) ≤ List.length (rwO l over)) ::
    ((0 : Int) ≤ e1O l over) ::
    ((0 : Int) ≤ (↑(List.length l) : Int)) ::
    (Int.toNat (e1O l over) ≤ List.length l ∧ 0 + List.length l ≤ List.length (rwO l over)) ::
    (0 < List.length l - Int.toNat (e1O l over)) ::
    (0 + Int.toNat (e1O l over) + (List.length l - Int.toNat (e1O l over)) ≤ List.length (rwO l over)) ::
    (Int.toNat (exO l over) + (List.length l - Int.toNat (e1O l over)) ≤ List.length (rwO l over)) ::
    (onesOk 8 (List.take (List.length l - Int.toNat (e1O l over)) (List.drop (0 + Int.toNat (e1O l over)) (rwO l over))) = true) ::
    ((0 : Int) ≤ (↑(Int.toNat (exO l over) + (List.length l - Int.toNat (e1O l over))) : Int)) ::
    ((0 : Int) ≤ (↑(List.length l) : Int)) ::
    (Int.toNat (exO l over) + (List.length l - Int.toNat (e1O l over)) ≤ List.length l ∧ 0 + List.length l ≤ List.length (List.take (Int.toNat (exO l over)) (rwO l over) ++ List.take (List.length l - Int.toNat (e1O l over)) (List.drop (0 + Int.toNat (e1O l over)) (rwO l over)) ++ List.drop (Int.toNat (exO l over) + List.length (List.take (List.length l - Int.toNat (e1O l over)) (List.drop (0 + Int.toNat (e1O l over)) (rwO l over)))) (rwO l over))) ::
    (0 < List.length l - (Int.toNat (exO l over) + (List.length l - Int.toNat (e1O l over)))) ::
    (0 + (Int.toNat (exO l over) + (List.length l - Int.toNat (e1O l over))) + (List.length l - (Int.toNat (exO l over) + (List.length l - Int.toNat (e1O l over)))) ≤ List.length (List.take (Int.toNat (exO l over)) (rwO l over) ++ List.take (List.length l - Int.toNat (e1O l over)) (List.drop (0 + Int.toNat (e1O l over)) (rwO l over)) ++ List.drop (Int.toNat (exO l over) + List.length (List.take (List.length l - Int.toNat (e1O l over)) (List.drop (0 + Int.toNat (e1O l over)) (rwO l over)))) (rwO l over))) ::
    (0 < 1) ::
    (1 ≤ 1) ::
    (Int.toNat (exO l over) + (List.length l - Int.toNat (e1O l over)) + 1 ≤ List.length (List.take (0 + (Int.toNat (exO l over) + (List.length l - Int.toNat (e1O l over)))) (List.take (Int.toNat (exO l over)) (rwO l over) ++ List.take (List.length l - Int.toNat (e1O l over)) (List.drop (0 + Int.toNat (e1O l over)) (rwO l over)) ++ List.drop (Int.toNat (exO l over) + List.length (List.take (List.length l - Int.toNat (e1O l over)) (List.drop (0 + Int.toNat (e1O l over)) (rwO l over)))) (rwO l over)) ++ List.replicate (List.length l - (Int.toNat (exO l over) + (List.length l - Int.toNat (e1O l over)))) (List.map AV.val [Value.int IntKind.i64 (0 : Int), Value.int IntKind.u8 (0 : Int), Value.int IntKind.u8 (0 : Int), Value.int IntKind.u8 (0 : Int), Value.int IntKind.u8 (0 : Int), Value.int IntKind.i64 (0 : Int), Value.int IntKind.i64 (0 : Int), Value.bool false]) ++ List.drop (0 + (Int.toNat (exO l over) + (List.length l - Int.toNat (e1O l over))) + List.length (List.replicate (List.length l - (Int.toNat (exO l over) + (List.length l - Int.toNat (e1O l over)))) (List.map AV.val [Value.int IntKind.i64 (0 : Int), Value.int IntKind.u8 (0 : Int), Value.int IntKind.u8 (0 : Int), Value.int IntKind.u8 (0 : Int), Value.int IntKind.u8 (0 : Int), Value.int IntKind.i64 (0 : Int), Value.int IntKind.i64 (0 : Int), Value.bool false]))) (List.take (Int.toNat (exO l over)) (rwO l over) ++ List.take (List.length l - Int.toNat (e1O l over)) (List.drop (0 + Int.toNat (e1O l over)) (rwO l over)) ++ List.drop (Int.toNat (exO l over) + List.length (List.take (List.length l - Int.toNat (e1O l over)) (List.drop (0 + Int.toNat (e1O l over)) (rwO l over)))) (rwO l over)))) ::
    (true = true) ::
    (AV.val (Value.int IntKind.i64 room) = AV.val (Value.int IntKind.i64 room)) ::
    (AV.val (Value.int IntKind.i64 over) = AV.val (Value.int IntKind.i64 over)) ::
    (AV.val (Value.int IntKind.i64 (0 : Int)) = AV.val (Value.int IntKind.i64 (0 : Int))) ::
    (SameO (some { t := 88, sz := 2, exact := true, fz := false, body := Body.rows [[AV.val (Value.int IntKind.i64 room), AV.sl 1 0 (Int.toNat (exO l over) + (List.length l - Int.toNat (e1O l over)) + 1) none]] }) { t := 88, sz := 2, exact := true, fz := false, body := Body.rows [[AV.val (Value.int IntKind.i64 room), AV.sl 1 0 (List.length k) none]] }) ::
    (SameO (some { t := 92, sz := 8, exact := false, fz := false, body := Body.flat (List.take (Int.toNat (exO l over) + (List.length l - Int.toNat (e1O l over))) (List.take (0 + (Int.toNat (exO l over) + (List.length l - Int.toNat (e1O l over)))) (List.take (Int.toNat (exO l over)) (rwO l over) ++ List.take (List.length l - Int.toNat (e1O l over)) (List.drop (0 + Int.toNat (e1O l over)) (rwO l over)) ++ List.drop (Int.toNat (exO l over) + List.length (List.take (List.length l - Int.toNat (e1O l over)) (List.drop (0 + Int.toNat (e1O l over)) (rwO l over)))) (rwO l over)) ++ List.replicate (List.length l - (Int.toNat (exO l over) + (List.length l - Int.toNat (e1O l over)))) (List.map AV.val [Value.int IntKind.i64 (0 : Int), Value.int IntKind.u8 (0 : Int), Value.int IntKind.u8 (0 : Int), Value.int IntKind.u8 (0 : Int), Value.int IntKind.u8 (0 : Int), Value.int IntKind.i64 (0 : Int), Value.int IntKind.i64 (0 : Int), Value.bool false]) ++ List.drop (0 + (Int.toNat (exO l over) + (List.length l - Int.toNat (e1O l over))) + List.length (List.replicate (List.length l - (Int.toNat (exO l over) + (List.length l - Int.toNat (e1O l over)))) (List.map AV.val [Value.int IntKind.i64 (0 : Int), Value.int IntKind.u8 (0 : Int), Value.int IntKind.u8 (0 : Int), Value.int IntKind.u8 (0 : Int), Value.int IntKind.u8 (0 : Int), Value.int IntKind.i64 (0 : Int), Value.int IntKind.i64 (0 : Int), Value.bool false]))) (List.take (Int.toNat (exO l over)) (rwO l over) ++ List.take (List.length l - Int.toNat (e1O l over)) (List.drop (0 + Int.toNat (e1O l over)) (rwO l over)) ++ List.drop (Int.toNat (exO l over) + List.length (List.take (List.length l - Int.toNat (e1O l over)) (List.drop (0 + Int.toNat (e1O l over)) (rwO l over)))) (rwO l over))) ++ [[AV.val (Value.int IntKind.i64 (1000 : Int)), AV.val (Value.int IntKind.u8 (8 : Int)), AV.val (Value.int IntKind.u8 (8 : Int)), AV.val (Value.int IntKind.u8 (8 : Int)), AV.val (Value.int IntKind.u8 (1 : Int)), AV.val (Value.int IntKind.i64 (80 : Int)), AV.val (Value.int IntKind.i64 (1 : Int)), AV.val (Value.bool false)]] ++ List.drop (Int.toNat (exO l over) + (List.length l - Int.toNat (e1O l over)) + 1) (List.take (0 + (Int.toNat (exO l over) + (List.length l - Int.toNat (e1O l over)))) (List.take (Int.toNat (exO l over)) (rwO l over) ++ List.take (List.length l - Int.toNat (e1O l over)) (List.drop (0 + Int.toNat (e1O l over)) (rwO l over)) ++ List.drop (Int.toNat (exO l over) + List.length (List.take (List.length l - Int.toNat (e1O l over)) (List.drop (0 + Int.toNat (e1O l over)) (rwO l over)))) (rwO l over)) ++ List.replicate (List.length l - (Int.toNat (exO l over) + (List.length l - Int.toNat (e1O l over)))) (List.map AV.val [Value.int IntKind.i64 (0 : Int), Value.int IntKind.u8 (0 : Int), Value.int IntKind.u8 (0 : Int), Value.int IntKind.u8 (0 : Int), Value.int IntKind.u8 (0 : Int), Value.int IntKind.i64 (0 : Int), Value.int IntKind.i64 (0 : Int), Value.bool false]) ++ List.drop (0 + (Int.toNat (exO l over) + (List.length l - Int.toNat (e1O l over))) + List.length (List.replicate (List.length l - (Int.toNat (exO l over) + (List.length l - Int.toNat (e1O l over)))) (List.map AV.val [Value.int IntKind.i64 (0 : Int), Value.int IntKind.u8 (0 : Int), Value.int IntKind.u8 (0 : Int), Value.int IntKind.u8 (0 : Int), Value.int IntKind.u8 (0 : Int), Value.int IntKind.i64 (0 : Int), Value.int IntKind.i64 (0 : Int), Value.bool false]))) (List.take (Int.toNat (exO l over)) (rwO l over) ++ List.take (List.length l - Int.toNat (e1O l over)) (List.drop (0 + Int.toNat (e1O l over)) (rwO l over)) ++ List.drop (Int.toNat (exO l over) + List.length (List.take (List.length l - Int.toNat (e1O l over)) (List.drop (0 + Int.toNat (e1O l over)) (rwO l over)))) (rwO l over)))) }) { t := 92, sz := 8, exact := false, fz := false, body := Body.flat (List.map (fun x => (AV.brecOn_1.go x (AV.ren._f (renX 0 [0, 1] 202)) (renL._f (renX 0 [0, 1] 202))).1) (trows k)) }) ::
    (EvXL Try.prog 0 (loopAt Try.prog 7 15) (GoalX.st (LoopX.G (tsL room over k 1)) 0) (LoopX.ex (tsL room over k 1)) (GoalX.st (LoopX.E (tsL room over k 1)) 0)) ::
    rp 3 (((↑(List.length k) : Int) == room) = true) ( (trows k = trows (tal (trows k))) ::
    (List.length k = List.length (trows k)) ::
    (List.length k ≤ 1000000) ::
    (decide (fIx (1000 : Int) (tal (trows k)) 0 < (0 : Int)) = false) ::
    ((0 : Int) ≤ fIx (1000 : Int) (tal (trows k)) 0 ∧ fIx (1000 : Int) (tal (trows k)) 0 < (↑(List.length k) : Int)) ::
    ((trows k)[0 + Int.toNat (fIx (1000 : Int) (tal (trows k)) 0)]? = some [AV.val (Value.int IntKind.i64 (1000 : Int)), AV.val (Value.int IntKind.u8 (8 : Int)), AV.val (Value.int IntKind.u8 (8 : Int)), AV.val (Value.int IntKind.u8 (8 : Int)), AV.val (Value.int IntKind.u8 (1 : Int)), AV.val (Value.int IntKind.i64 (80 : Int)), AV.val (Value.int IntKind.i64 (1 : Int)), AV.val (Value.bool false)]) ::
    rp 2 (((↑(List.length k) : Int) == room) = true) ( []))))))))))) := by kernel_rfl

set_option maxRecDepth 100000 in
theorem tu_last (room : Int) (over : Int) (more : Int) (l : List (Int × Int)) (k : List (Int × Int)) : outXS kRm [(17, { op := [(10, 3, Hn.row (trow (over, (1 : Int)))), (13, 3, Hn.row (trow (over, (6 : Int))))] }), (45, { op := [(5, 7, Hn.inn)], br := [(14, true)] }), (43, { ob := [(1, 5)] }), (7, { op := [(3, 5, .br false), (3, 9, .br false), (3, 14, .br false), (3, 18, .br false), (3, 22, .br false), (19, 9, .br true)], gd := [(3, 3, false), (3, 4, false), (3, 7, false), (3, 8, false), (3, 11, false), (3, 12, false), (3, 13, false), (3, 16, false), (3, 17, false), (3, 20, false), (3, 21, false), (19, 5, true), (19, 6, true), (19, 7, true), (19, 8, true)], br := [(35, false)], ob := [(12, 4), (13, 3), (19, 1), (19, 7)] }), (13000017, { op := [(2, 7, .br false), (10, 3, Hn.row (trow (over, (1 : Int)))), (13, 3, Hn.row (trow (over, (6 : Int))))], gd := [(2, 3, false), (2, 4, false), (2, 5, false), (2, 6, false)], br := [(40, false)], ob := [(1, 4), (7, 5)] }), (80000017, { op := [(2, 7, .br true), (10, 3, Hn.row (trow (over, (1 : Int)))), (13, 3, Hn.row (trow (over, (6 : Int))))], gd := [(2, 3, true), (2, 4, true), (2, 5, true), (2, 6, true)], ob := [(1, 4), (3, 6)] }), (19, { op := [(4, 7, Hn.row (trow ((1000 : Int), (1 : Int))))], br := [(16, false)], ob := [(1, 4), (4, 5)] }), (16, { op := [(1, 5, .br false)], gd := [(1, 3, false), (1, 4, false)], br := [(9, false)] }), (80, { op := [(5, 6, Hn.mrs), (6, 5, Hn.inn)], br := [(16, false)], ob := [(1, 5), (5, 2), (5, 5), (6, 4)] })] Try.prog 7 [AV.val (Value.int IntKind.i64 room), AV.val (Value.int IntKind.i64 over), AV.val (Value.int IntKind.i64 more)] [] 0 [] [(9, trLL room over l 43), (15, tsL room over k 1)] = some (AV.val (Value.bool true), [], 56, rp 3 (decide (room < (1 : Int)) = false) ( rp 3 (decide (room > (60 : Int)) = false) ( rp 4 (decide (over < (0 : Int)) = false) ( rp 3 (decide (over ≥ room) = false) ( rp 3 (decide (more < (1 : Int)) = false) ( (decide (more > (1 : Int)) = false) ::
    rp 3 (decide (room < (1 : Int)) = false) ( (decide (room > (256 : Int)) = false) ::
    (AV.val (Value.int IntKind.i64 room) = AV.val (Value.int IntKind.i64 room)) ::
    (AV.val (Value.int IntKind.i64 over) = AV.val (Value.int IntKind.i64 over)) ::
    (AV.val (Value.int IntKind.i64 (0 : Int)) = AV.val (Value.int IntKind.i64 (0 : Int))) ::
    (SameO (some { t := 88, sz := 2, exact := true, fz := false, body := Body.rows [[AV.val (Value.int IntKind.i64 room), AV.val (Value.slice none 0 0)]] }) { t := 88, sz := 2, exact := true, fz := false, body := Body.rows [[AV.val (Value.int IntKind.i64 room), AV.val (Value.slice none 0 0)]] }) ::
    (EvXL Try.prog 0 (loopAt Try.prog 7 9) (GoalX.st (LoopX.G (trLL room over l 43)) 0) (LoopX.ex (trLL room over l 43)) (GoalX.st (LoopX.E (trLL room over l 43)) 0)) ::
    (trows l = trows (tal (trows l))) ::
    (List.length l = List.length (trows l)) ::
    (List.length l ≤ 1000000) ::
    rp 6 (decide (fIx over (tal (trows l)) 0 < (0 : Int)) = false) ( ((0 : Int) ≤ fIx over (tal (trows l)) 0 ∧ fIx over (tal (trows l)) 0 < (↑(List.length l) : Int)) ::
    ((trows l)[0 + Int.toNat (fIx over (tal (trows l)) 0)]? = some [AV.val (Value.int IntKind.i64 over), AV.val (Value.int IntKind.u8 (8 : Int)), AV.val (Value.int IntKind.u8 (8 : Int)), AV.val (Value.int IntKind.u8 (8 : Int)), AV.val (Value.int IntKind.u8 (1 : Int)), AV.val (Value.int IntKind.i64 (80 : Int)), AV.val (Value.int IntKind.i64 (1 : Int)), AV.val (Value.bool false)]) ::
    ((rwO l over)[0 + Int.toNat (fIx over (tal (trows l)) 0)]? = some [AV.val (Value.int IntKind.i64 over), AV.val (Value.int IntKind.u8 (8 : Int)), AV.val (Value.int IntKind.u8 (8 : Int)), AV.val (Value.int IntKind.u8 (8 : Int)), AV.val (Value.int IntKind.u8 (1 : Int)), AV.val (Value.int IntKind.i64 (80 : Int)), AV.val (Value.int IntKind.i64 (6 : Int)), AV.val (Value.bool false)]) ::
    (rwO l over = trows (tal (rwO l over))) ::
    (List.length l = List.length (rwO l over)) ::
    (List.length l ≤ 1000000) ::
    rp 5 (decide (fIx (1000 : Int) (tal (rwO l over)) 0 < (0 : Int)) = true) ( (decide ((↑(List.length l) : Int) ≥ room) = true) ::
    (rwO l over = trows (tal (rwO l over))) ::
    (List.length l = List.length (rwO l over)) ::
    (List.length l ≤ 1000000) ::
    ((0 : Int) ≤ fIy (tal (rwO l over)) 0) ::
    ((0 : Int) ≤ exO l over) ::
    ((0 : Int) ≤ e1O l over) ::
    ((0 : Int) ≤ (↑(List.length l) : Int)) ::
    (Int.toNat (exO l over) ≤ Int.toNat (e1O l over) ∧ Int.toNat (e1O l over) ≤ List.length l ∧ 0 + List.length l ≤ List.length (rwO l over)) ::
    (((exO l over) == e1O l over) = false) ::
    ((0 : Int) ≤ (0 : Int)) ::
    ((0 : Int) ≤ exO l over) ::
    (0 ≤ Int.toNat (exO l over) ∧ 0 + Int.toNat (exO l over) ≤ List.length (rwO l over)) ::
    ((0 : Int) ≤ e1O l over) ::
    ((0 : Int) ≤ (↑(List.length l) : Int)) ::
    (Int.toNat (e1O l over) ≤ List.length l ∧ 0 + List.length l ≤ List.length (rwO l over)) ::
    (List.length l - Int.toNat (e1O l over) = 0) ::
    ((0 : Int) ≤ (↑(Int.toNat (exO l over)) : Int)) ::
    ((0 : Int) ≤ (↑(List.length l) : Int)) ::
    (Int.toNat (exO l over) ≤ List.length l ∧ 0 + List.length l ≤ List.length (rwO l over)) ::
    (0 < List.length l - Int.toNat (exO l over)) ::
    (0 + Int.toNat (exO l over) + (List.length l - Int.toNat (exO l over)) ≤ List.length (rwO l over)) ::
    (0 < 1) ::
    (1 ≤ 1) ::
    (Int.toNat (exO l over) + 1 ≤ List.length (List.take (0 + Int.toNat (exO l over)) (rwO l over) ++ List.replicate (List.length l - Int.toNat (exO l over)) (List.map AV.val [Value.int IntKind.i64 (0 : Int), Value.int IntKind.u8 (0 : Int), Value.int IntKind.u8 (0 : Int), Value.int IntKind.u8 (0 : Int), Value.int IntKind.u8 (0 : Int), Value.int IntKind.i64 (0 : Int), Value.int IntKind.i64 (0 : Int), Value.bool false]) ++ List.drop (0 + Int.toNat (exO l over) + List.length (List.replicate (List.length l - Int.toNat (exO l over)) (List.map AV.val [Value.int IntKind.i64 (0 : Int), Value.int IntKind.u8 (0 : Int), Value.int IntKind.u8 (0 : Int), Value.int IntKind.u8 (0 : Int), Value.int IntKind.u8 (0 : Int), Value.int IntKind.i64 (0 : Int), Value.int IntKind.i64 (0 : Int), Value.bool false]))) (rwO l over))) ::
    (true = true) ::
    (AV.val (Value.int IntKind.i64 room) = AV.val (Value.int IntKind.i64 room)) ::
    (AV.val (Value.int IntKind.i64 over) = AV.val (Value.int IntKind.i64 over)) ::
    (AV.val (Value.int IntKind.i64 (0 : Int)) = AV.val (Value.int IntKind.i64 (0 : Int))) ::
    (SameO (some { t := 88, sz := 2, exact := true, fz := false, body := Body.rows [[AV.val (Value.int IntKind.i64 room), AV.sl 1 0 (Int.toNat (exO l over) + 1) none]] }) { t := 88, sz := 2, exact := true, fz := false, body := Body.rows [[AV.val (Value.int IntKind.i64 room), AV.sl 1 0 (List.length k) none]] }) ::
    (SameO (some { t := 92, sz := 8, exact := false, fz := false, body := Body.flat (List.take (Int.toNat (exO l over)) (List.take (0 + Int.toNat (exO l over)) (rwO l over) ++ List.replicate (List.length l - Int.toNat (exO l over)) (List.map AV.val [Value.int IntKind.i64 (0 : Int), Value.int IntKind.u8 (0 : Int), Value.int IntKind.u8 (0 : Int), Value.int IntKind.u8 (0 : Int), Value.int IntKind.u8 (0 : Int), Value.int IntKind.i64 (0 : Int), Value.int IntKind.i64 (0 : Int), Value.bool false]) ++ List.drop (0 + Int.toNat (exO l over) + List.length (List.replicate (List.length l - Int.toNat (exO l over)) (List.map AV.val [Value.int IntKind.i64 (0 : Int), Value.int IntKind.u8 (0 : Int), Value.int IntKind.u8 (0 : Int), Value.int IntKind.u8 (0 : Int), Value.int IntKind.u8 (0 : Int), Value.int IntKind.i64 (0 : Int), Value.int IntKind.i64 (0 : Int), Value.bool false]))) (rwO l over)) ++ [[AV.val (Value.int IntKind.i64 (1000 : Int)), AV.val (Value.int IntKind.u8 (8 : Int)), AV.val (Value.int IntKind.u8 (8 : Int)), AV.val (Value.int IntKind.u8 (8 : Int)), AV.val (Value.int IntKind.u8 (1 : Int)), AV.val (Value.int IntKind.i64 (80 : Int)), AV.val (Value.int IntKind.i64 (1 : Int)), AV.val (Value.bool false)]] ++ List.drop (Int.toNat (exO l over) + 1) (List.take (0 + Int.toNat (exO l over)) (rwO l over) ++ List.replicate (List.length l - Int.toNat (exO l over)) (List.map AV.val [Value.int IntKind.i64 (0 : Int), Value.int IntKind.u8 (0 : Int), Value.int IntKind.u8 (0 : Int), Value.int IntKind.u8 (0 : Int), Value.int IntKind.u8 (0 : Int), Value.int IntKind.i64 (0 : Int), Value.int IntKind.i64 (0 : Int), Value.bool false]) ++ List.drop (0 + Int.toNat (exO l over) + List.length (List.replicate (List.length l - Int.toNat (exO l over)) (List.map AV.val [Value.int IntKind.i64 (0 : Int), Value.int IntKind.u8 (0 : Int), Value.int IntKind.u8 (0 : Int), Value.int IntKind.u8 (0 : Int), Value.int IntKind.u8 (0 : Int), Value.int IntKind.i64 (0 : Int), Value.int IntKind.i64 (0 : Int), Value.bool false]))) (rwO l over))) }) { t := 92, sz := 8, exact := false, fz := false, body := Body.flat (List.map (fun x => (AV.brecOn_1.go x (AV.ren._f (renX 0 [0, 1] 202)) (renL._f (renX 0 [0, 1] 202))).1) (trows k)) }) ::
    (EvXL Try.prog 0 (loopAt Try.prog 7 15) (GoalX.st (LoopX.G (tsL room over k 1)) 0) (LoopX.ex (tsL room over k 1)) (GoalX.st (LoopX.E (tsL room over k 1)) 0)) ::
    rp 3 (((↑(List.length k) : Int) == room) = true) ( (trows k = trows (tal (trows k))) ::
    (List.length k = List.length (trows k)) ::
    (List.length k ≤ 1000000) ::
    (decide (fIx (1000 : Int) (tal (trows k)) 0 < (0 : Int)) = false) ::
    ((0 : Int) ≤ fIx (1000 : Int) (tal (trows k)) 0 ∧ fIx (1000 : Int) (tal (trows k)) 0 < (↑(List.length k) : Int)) ::
    ((trows k)[0 + Int.toNat (fIx (1000 : Int) (tal (trows k)) 0)]? = some [AV.val (Value.int IntKind.i64 (1000 : Int)), AV.val (Value.int IntKind.u8 (8 : Int)), AV.val (Value.int IntKind.u8 (8 : Int)), AV.val (Value.int IntKind.u8 (8 : Int)), AV.val (Value.int IntKind.u8 (1 : Int)), AV.val (Value.int IntKind.i64 (80 : Int)), AV.val (Value.int IntKind.i64 (1 : Int)), AV.val (Value.bool false)]) ::
    rp 2 (((↑(List.length k) : Int) == room) = true) ( []))))))))))) := by kernel_rfl
end Go.Proofs.Ytecmagdefllihaa

/- The law TrackRoom (runs). No condition. -/
namespace Go.Proofs.Ytecmagdefllihaa
open Go.RowKit

set_option maxRecDepth 100000 in
theorem tr_first (room : Int) (over : Int) : stepXS kTr [(45, { br := [(14, false)] }),
   (7, { br := [(45, true)], ob := [(11, 4)] }),
   (17, { ob := [(1, 4), (3, 6)] })] Try.prog 7 9 (trG0 room over) (trG1 room over) [0, 85] 0 [] =
   some (.normal,
   (decide ((0 : Int) < room) = true) ::
   (decide ((0 : Int) ≥ room) = false) ::
   (AV.val (Value.int IntKind.i64 room) = AV.val (Value.int IntKind.i64 room)) ::
   (AV.val (Value.int IntKind.i64 over) = AV.val (Value.int IntKind.i64 over)) ::
   (AV.val (Value.int IntKind.i64 (1 : Int)) = AV.val (Value.int IntKind.i64 (1 : Int))) ::
   (SameO (some { t := 88, sz := 2, exact := true, fz := false, body := Body.rows [[AV.val (Value.int IntKind.i64 room), AV.sl 85 0 1 none]] }) { t := 88, sz := 2, exact := true, fz := false, body := Body.rows [[AV.val (Value.int IntKind.i64 room), AV.sl 85 0 1 none]] }) ::
   (SameO (some { t := 92, sz := 8, exact := false, fz := false, body := Body.rows [[AV.val (Value.int IntKind.i64 (0 : Int)), AV.val (Value.int IntKind.u8 (8 : Int)), AV.val (Value.int IntKind.u8 (8 : Int)), AV.val (Value.int IntKind.u8 (8 : Int)), AV.val (Value.int IntKind.u8 (1 : Int)), AV.val (Value.int IntKind.i64 (80 : Int)), AV.val (Value.int IntKind.i64 (1 : Int)), AV.val (Value.bool false)]] }) { t := 92, sz := 8, exact := false, fz := false, body := Body.rows [[AV.val (Value.int IntKind.i64 (0 : Int)), AV.val (Value.int IntKind.u8 (8 : Int)), AV.val (Value.int IntKind.u8 (8 : Int)), AV.val (Value.int IntKind.u8 (8 : Int)), AV.val (Value.int IntKind.u8 (1 : Int)), AV.val (Value.int IntKind.i64 (80 : Int)), AV.val (Value.int IntKind.i64 (1 : Int)), AV.val (Value.bool false)]] }) :: []) := by kernel_rfl

set_option maxRecDepth 100000 in
theorem tr_step (room : Int) (over : Int) (i : Nat) (l : List (Int × Int)) : stepXS kTr [(45, { br := [(14, false)], ob := [(5, 7)] }),
   (43, { ob := [(1, 5)] }),
   (7, { br := [(45, true)], ob := [(11, 4)] }),
   (17, { op := [(2, 7, .br true)], gd := [(2, 3, true), (2, 4, true), (2, 5, true), (2, 6, true)], ob := [(1, 4), (3, 6)] })] Try.prog 7 9 (trG room over i l) (trG room over (i + 1) (l ++ [((↑i : Int), (1 : Int))])) [0, 81] 0 [] =
   some (.normal,
   (decide ((↑i : Int) < room) = true) ::
   (trows l = trows (tal (trows l))) ::
   (List.length l = List.length (trows l)) ::
   (List.length l ≤ 1000000) ::
   rp 5 (decide (fIx (↑i : Int) (tal (trows l)) 0 < (0 : Int)) = true) (
   (decide ((↑(List.length l) : Int) ≥ room) = false) ::
   (List.length (trows l) = List.length l) ::
   (List.length l + 1 ≤ 1000000000) ::
   ((List.length l + 1) * 40 ≤ 140737488355328) ::
   (AV.val (Value.int IntKind.i64 room) = AV.val (Value.int IntKind.i64 room)) ::
   (AV.val (Value.int IntKind.i64 over) = AV.val (Value.int IntKind.i64 over)) ::
   (AV.val (Value.int IntKind.i64 (IntKind.wrap IntKind.i64 ((↑i : Int) + (1 : Int)))) = AV.val (Value.int IntKind.i64 (↑(i + 1) : Int))) ::
   (SameO (some { t := 88, sz := 2, exact := true, fz := false, body := Body.rows [[AV.val (Value.int IntKind.i64 room), AV.sl 81 0 (List.length l + 1) none]] }) { t := 88, sz := 2, exact := true, fz := false, body := Body.rows [[AV.val (Value.int IntKind.i64 room), AV.sl 81 0 (List.length (l ++ [((↑i : Int), (1 : Int))])) none]] }) ::
   (SameO (some { t := 92, sz := 8, exact := false, fz := false, body := Body.flat (trows l ++ [[AV.val (Value.int IntKind.i64 (↑i : Int)), AV.val (Value.int IntKind.u8 (8 : Int)), AV.val (Value.int IntKind.u8 (8 : Int)), AV.val (Value.int IntKind.u8 (8 : Int)), AV.val (Value.int IntKind.u8 (1 : Int)), AV.val (Value.int IntKind.i64 (80 : Int)), AV.val (Value.int IntKind.i64 (1 : Int)), AV.val (Value.bool false)]]) }) { t := 92, sz := 8, exact := false, fz := false, body := Body.flat (List.map (fun x => (AV.brecOn_1.go x (AV.ren._f (renX 0 [0, 81] 89)) (renL._f (renX 0 [0, 81] 89))).1) (trows (l ++ [((↑i : Int), (1 : Int))]))) }) :: [])) := by kernel_rfl

set_option maxRecDepth 100000 in
theorem tr_end (room : Int) (over : Int) (i : Nat) (l : List (Int × Int)) : stepXS kTr [(7, { br := [(45, false)] })] Try.prog 7 9 (trG room over i l) (trE room over l) [0, 1] 0 [] =
   some (.exit 0,
   (decide ((↑i : Int) < room) = false) ::
   (AV.val (Value.int IntKind.i64 room) = AV.val (Value.int IntKind.i64 room)) ::
   (AV.val (Value.int IntKind.i64 over) = AV.val (Value.int IntKind.i64 over)) ::
   (SameO (some { t := 88, sz := 2, exact := true, fz := false, body := Body.rows [[AV.val (Value.int IntKind.i64 room), AV.sl 1 0 (List.length l) none]] }) { t := 88, sz := 2, exact := true, fz := false, body := Body.rows [[AV.val (Value.int IntKind.i64 room), AV.sl 1 0 (List.length l) none]] }) ::
   (SameO (some { t := 92, sz := 8, exact := false, fz := false, body := Body.flat (trows l) }) { t := 92, sz := 8, exact := false, fz := false, body := Body.flat (List.map (fun x => (AV.brecOn_1.go x (AV.ren._f (renX 0 [0, 1] 5)) (renL._f (renX 0 [0, 1] 5))).1) (trows l)) }) :: []) := by kernel_rfl

set_option maxRecDepth 100000 in
theorem ts_there (room : Int) (over : Int) (i : Nat) (l : List (Int × Int)) (p : Nat) (x : Int) (s : Int) : stepXS kTr [(43, { ob := [(1, 5)] }),
   (7, { br := [(64, true), (75, false)], ob := [(17, 3)] }),
   (19, { op := [(4, 7, Hn.row (trow (x, s)))], br := [(16, false)], ob := [(1, 4), (4, 5)] })] Try.prog 7 15 (tsG room over i l) (tsG room over (i + 1) l) [0, 1] 0 [] =
   some (.normal,
   (decide ((↑i : Int) < room) = true) ::
   (trows l = trows (tal (trows l))) ::
   (List.length l = List.length (trows l)) ::
   (List.length l ≤ 1000000) ::
   (decide (fIx (↑i : Int) (tal (trows l)) 0 < (0 : Int)) = false) ::
   ((0 : Int) ≤ fIx (↑i : Int) (tal (trows l)) 0 ∧ fIx (↑i : Int) (tal (trows l)) 0 < (↑(List.length l) : Int)) ::
   ((trows l)[0 + Int.toNat (fIx (↑i : Int) (tal (trows l)) 0)]? = some [AV.val (Value.int IntKind.i64 x), AV.val (Value.int IntKind.u8 (8 : Int)), AV.val (Value.int IntKind.u8 (8 : Int)), AV.val (Value.int IntKind.u8 (8 : Int)), AV.val (Value.int IntKind.u8 (1 : Int)), AV.val (Value.int IntKind.i64 (80 : Int)), AV.val (Value.int IntKind.i64 s), AV.val (Value.bool false)]) ::
   ((!(s == (0 : Int)) == ((↑i : Int) == over)) = false) ::
   (AV.val (Value.int IntKind.i64 room) = AV.val (Value.int IntKind.i64 room)) ::
   (AV.val (Value.int IntKind.i64 over) = AV.val (Value.int IntKind.i64 over)) ::
   (AV.val (Value.int IntKind.i64 (IntKind.wrap IntKind.i64 ((↑i : Int) + (1 : Int)))) = AV.val (Value.int IntKind.i64 (↑(i + 1) : Int))) ::
   (SameO (some { t := 88, sz := 2, exact := true, fz := false, body := Body.rows [[AV.val (Value.int IntKind.i64 room), AV.sl 1 0 (List.length l) none]] }) { t := 88, sz := 2, exact := true, fz := false, body := Body.rows [[AV.val (Value.int IntKind.i64 room), AV.sl 1 0 (List.length l) none]] }) ::
   (SameO (some { t := 92, sz := 8, exact := false, fz := false, body := Body.flat (trows l) }) { t := 92, sz := 8, exact := false, fz := false, body := Body.flat (List.map (fun x => (AV.brecOn_1.go x (AV.ren._f (renX 0 [0, 1] 53)) (renL._f (renX 0 [0, 1] 53))).1) (trows l)) }) :: []) := by kernel_rfl

set_option maxRecDepth 100000 in
theorem ts_gone (room : Int) (over : Int) (i : Nat) (l : List (Int × Int)) : stepXS kTr [(43, { ob := [(1, 5)] }),
   (7, { br := [(64, true), (75, false)], ob := [(17, 3)] }),
   (19, { br := [(16, true)], ob := [(1, 4)] })] Try.prog 7 15 (tsG room over i l) (tsG room over (i + 1) l) [0, 1] 0 [] =
   some (.normal,
   (decide ((↑i : Int) < room) = true) ::
   (trows l = trows (tal (trows l))) ::
   (List.length l = List.length (trows l)) ::
   (List.length l ≤ 1000000) ::
   (decide (fIx (↑i : Int) (tal (trows l)) 0 < (0 : Int)) = true) ::
   ((!true == ((↑i : Int) == over)) = false) ::
   (AV.val (Value.int IntKind.i64 room) = AV.val (Value.int IntKind.i64 room)) ::
   (AV.val (Value.int IntKind.i64 over) = AV.val (Value.int IntKind.i64 over)) ::
   (AV.val (Value.int IntKind.i64 (IntKind.wrap IntKind.i64 ((↑i : Int) + (1 : Int)))) = AV.val (Value.int IntKind.i64 (↑(i + 1) : Int))) ::
   (SameO (some { t := 88, sz := 2, exact := true, fz := false, body := Body.rows [[AV.val (Value.int IntKind.i64 room), AV.sl 1 0 (List.length l) none]] }) { t := 88, sz := 2, exact := true, fz := false, body := Body.rows [[AV.val (Value.int IntKind.i64 room), AV.sl 1 0 (List.length l) none]] }) ::
   (SameO (some { t := 92, sz := 8, exact := false, fz := false, body := Body.flat (trows l) }) { t := 92, sz := 8, exact := false, fz := false, body := Body.flat (List.map (fun x => (AV.brecOn_1.go x (AV.ren._f (renX 0 [0, 1] 45)) (renL._f (renX 0 [0, 1] 45))).1) (trows l)) }) :: []) := by kernel_rfl

set_option maxRecDepth 100000 in
theorem ts_end (room : Int) (over : Int) (i : Nat) (l : List (Int × Int)) : stepXS kTr [(7, { br := [(64, false)] })] Try.prog 7 15 (tsG room over i l) (tsE room l) [0, 1] 0 [] =
   some (.exit 2,
   (decide ((↑i : Int) < room) = false) ::
   (AV.val (Value.int IntKind.i64 room) = AV.val (Value.int IntKind.i64 room)) ::
   (SameO (some { t := 88, sz := 2, exact := true, fz := false, body := Body.rows [[AV.val (Value.int IntKind.i64 room), AV.sl 1 0 (List.length l) none]] }) { t := 88, sz := 2, exact := true, fz := false, body := Body.rows [[AV.val (Value.int IntKind.i64 room), AV.sl 1 0 (List.length l) none]] }) ::
   (SameO (some { t := 92, sz := 8, exact := false, fz := false, body := Body.flat (trows l) }) { t := 92, sz := 8, exact := false, fz := false, body := Body.flat (List.map (fun x => (AV.brecOn_1.go x (AV.ren._f (renX 0 [0, 1] 5)) (renL._f (renX 0 [0, 1] 5))).1) (trows l)) }) :: []) := by kernel_rfl
end Go.Proofs.Ytecmagdefllihaa

/- The law TrackRoom: which talks are where (plain). -/
namespace Go.Proofs.Ytecmagdefllihaa
open Go.RowKit

theorem fIx_no (o : Int) : ∀ (l : List (Int × Int)) (k : Nat), (∀ x ∈ l, x.1 ≠ o) → fIx o l k = -1
  | [], _, _ => rfl
  | x :: l, k, h => by
    unfold fIx
    rw [if_neg (h x List.mem_cons_self)]
    exact fIx_no o l (k + 1) fun y hy => h y (List.mem_cons_of_mem _ hy)
theorem fIx_at (o s : Int) (b : List (Int × Int)) : ∀ (a : List (Int × Int)) (k : Nat), (∀ x ∈ a, x.1 ≠ o) → fIx o (a ++ (o, s) :: b) k = ((k + a.length : Nat) : Int)
  | [], k, _ => by
    show fIx o ((o, s) :: b) k = _
    unfold fIx
    rw [if_pos rfl]
    rfl
  | x :: a, k, h => by
    show fIx o (x :: (a ++ (o, s) :: b)) k = _
    unfold fIx
    rw [if_neg (h x List.mem_cons_self), fIx_at o s b a (k + 1) fun y hy => h y (List.mem_cons_of_mem _ hy)]
    simp only [List.length_cons]
    omega
theorem fIy_at (o s : Int) (hs : 5 ≤ s) (b : List (Int × Int)) : ∀ (a : List (Int × Int)) (k : Nat), (∀ x ∈ a, x.2 = 1) → fIy (a ++ (o, s) :: b) k = ((k + a.length : Nat) : Int)
  | [], k, _ => by
    show fIy ((o, s) :: b) k = _
    unfold fIy
    rw [if_pos hs]
    rfl
  | x :: a, k, h => by
    show fIy (x :: (a ++ (o, s) :: b)) k = _
    unfold fIy
    rw [if_neg (by rw [h x List.mem_cons_self]; omega), fIy_at o s hs b a (k + 1) fun y hy => h y (List.mem_cons_of_mem _ hy)]
    simp only [List.length_cons]
    omega

/-- the talks of n ports from a on, each begun -/
def seg (a n : Nat) : List (Int × Int) := (List.range n).map fun k : Nat => (((a + k : Nat) : Int), (1 : Int))
theorem seg_len (a n : Nat) : (seg a n).length = n := by simp [seg]
theorem seg_mem {a n : Nat} {x : Int × Int} (h : x ∈ seg a n) : (a : Int) ≤ x.1 ∧ x.1 < (a : Int) + n ∧ x.2 = 1 := by
  unfold seg at h
  obtain ⟨k, hk, rfl⟩ := List.mem_map.1 h
  have := List.mem_range.1 hk
  refine ⟨?_, ?_, rfl⟩
  · show (a : Int) ≤ ((a + k : Nat) : Int); omega
  · show ((a + k : Nat) : Int) < _; omega
theorem seg_cons (a n : Nat) : seg a (n + 1) = ((a : Int), 1) :: seg (a + 1) n := by
  unfold seg
  rw [List.range_succ_eq_map, List.map_cons, List.map_map]
  congr 1
  refine List.map_congr_left fun k _ => ?_
  show (((a + (k + 1) : Nat) : Int), (1 : Int)) = _
  rw [show a + (k + 1) = a + 1 + k from by omega]
theorem seg_app (a n : Nat) : ∀ m, seg a (n + m) = seg a n ++ seg (a + n) m
  | 0 => by simp [seg]
  | m + 1 => by
    show seg a (n + m + 1) = _
    have h := seg_app a n m
    unfold seg at h ⊢
    rw [List.range_succ, List.map_append, h, List.range_succ, List.map_append, List.append_assoc]
    simp only [List.map_cons, List.map_nil]
    rw [Nat.add_assoc]
theorem begunT_seg (n : Nat) : begunT n = seg 0 n := by
  unfold begunT seg
  refine List.map_congr_left fun k _ => ?_
  rw [Nat.zero_add]
theorem begunT_len (n : Nat) : (begunT n).length = n := by simp [begunT]
theorem begunT_succ (n : Nat) : begunT (n + 1) = begunT n ++ [((n : Int), 1)] := by
  unfold begunT
  rw [List.range_succ, List.map_append]
  rfl
theorem begunT_split (n o : Nat) (h : o < n) : begunT n = seg 0 o ++ ((o : Int), 1) :: seg (o + 1) (n - o - 1) := by
  rw [begunT_seg]
  have e : n = o + ((n - o - 1) + 1) := by omega
  conv => lhs; rw [e, seg_app, Nat.zero_add, seg_cons]

/-- behind the one that is over is gone -/
def leftT (n o : Nat) : List (Int × Int) := seg 0 o ++ seg (o + 1) (n - o - 1) ++ [(1000, 1)]
theorem leftT_len (n o : Nat) (h : o < n) : (leftT n o).length = n := by
  unfold leftT
  simp only [List.length_append, seg_len, List.length_cons, List.length_nil]
  omega
/-- with one that is over -/
def overT (n o : Nat) : List (Int × Int) := seg 0 o ++ ((o : Int), 6) :: seg (o + 1) (n - o - 1)
theorem overT_len (n o : Nat) (h : o < n) : (overT n o).length = n := by
  unfold overT
  simp only [List.length_append, seg_len, List.length_cons]
  omega
theorem begunT_no (n i : Nat) (h : n ≤ i) : fIx (i : Int) (begunT n) 0 = -1 := by
  rw [begunT_seg]
  refine fIx_no _ _ _ fun x hx => ?_
  have := seg_mem hx
  omega
theorem begunT_at (n o : Nat) (h : o < n) : fIx (o : Int) (begunT n) 0 = o := by
  rw [begunT_split n o h, fIx_at _ _ _ _ _ fun x hx => ?_]
  · rw [seg_len, Nat.zero_add]
  · have := seg_mem hx
    omega
theorem begunT_get (n o : Nat) (h : o < n) : (begunT n)[o]? = some ((o : Int), 1) := by
  unfold begunT
  rw [List.getElem?_map, List.getElem?_range h]
  rfl
theorem overT_no (n o : Nat) (h : o < n) (hn : n ≤ 60) : fIx 1000 (overT n o) 0 = -1 := by
  refine fIx_no _ _ _ fun x hx => ?_
  unfold overT at hx
  rcases List.mem_append.1 hx with hx | hx
  · have := seg_mem hx
    omega
  · rcases List.mem_cons.1 hx with rfl | hx
    · show ((o : Int)) ≠ 1000
      omega
    · have := seg_mem hx
      omega
theorem overT_first (n o : Nat) : fIy (overT n o) 0 = o := by
  unfold overT
  rw [fIy_at _ _ (by decide) _ _ _ fun x hx => (seg_mem hx).2.2, seg_len, Nat.zero_add]
theorem leftT_gone (n o : Nat) (hn : n ≤ 60) (h : o < n) : fIx (o : Int) (leftT n o) 0 = -1 := by
  refine fIx_no _ _ _ fun x hx => ?_
  unfold leftT at hx
  rcases List.mem_append.1 hx with hx | hx
  · rcases List.mem_append.1 hx with hx | hx
    · have := seg_mem hx
      omega
    · have := seg_mem hx
      omega
  · rw [List.mem_singleton.1 hx]
    show (1000 : Int) ≠ o
    omega
theorem get_at {α : Type} (a b : List α) (x : α) : (a ++ x :: b)[a.length]? = some x := by
  rw [List.getElem?_append_right (Nat.le_refl _), Nat.sub_self]
  rfl
theorem leftT_there (n o i : Nat) (h : o < n) (hi : i < n) (hne : i ≠ o) : ∃ p : Nat, p < n ∧ fIx (i : Int) (leftT n o) 0 = p ∧ (leftT n o)[p]? = some ((i : Int), 1) := by
  have key : ∃ a b, leftT n o = a ++ ((i : Int), 1) :: b ∧ (∀ x ∈ a, x.1 ≠ (i : Int)) := by
    unfold leftT
    by_cases hlt : i < o
    · refine ⟨seg 0 i, seg (i + 1) (o - i - 1) ++ seg (o + 1) (n - o - 1) ++ [(1000, 1)], ?_, fun x hx => ?_⟩
      · have e : o = i + ((o - i - 1) + 1) := by omega
        have e2 : seg 0 o = seg 0 i ++ ((i : Int), 1) :: seg (i + 1) (o - i - 1) := by
          conv => lhs; rw [e, seg_app, Nat.zero_add, seg_cons]
        rw [e2]
        simp only [List.append_assoc, List.cons_append]
      · have := seg_mem hx
        omega
    · refine ⟨seg 0 o ++ seg (o + 1) (i - o - 1), seg (i + 1) (n - i - 1) ++ [(1000, 1)], ?_, fun x hx => ?_⟩
      · have e : n - o - 1 = (i - o - 1) + ((n - i - 1) + 1) := by omega
        have e2 : seg (o + 1) (n - o - 1) = seg (o + 1) (i - o - 1) ++ ((i : Int), 1) :: seg (i + 1) (n - i - 1) := by
          conv => lhs; rw [e, seg_app, seg_cons]
          rw [show o + 1 + (i - o - 1) = i from by omega]
        rw [e2]
        simp only [List.append_assoc, List.cons_append]
      · rcases List.mem_append.1 hx with hx | hx
        · have := seg_mem hx
          omega
        · have := seg_mem hx
          omega
  obtain ⟨a, b, e, ha⟩ := key
  have hl := leftT_len n o h
  rw [e] at hl ⊢
  refine ⟨a.length, ?_, ?_, get_at _ _ _⟩
  · simp only [List.length_append, List.length_cons] at hl
    omega
  · rw [fIx_at _ _ _ _ _ ha, Nat.zero_add]
theorem leftT_last (n o : Nat) (h : o < n) (hn : n ≤ 60) : fIx 1000 (leftT n o) 0 = ((n - 1 : Nat) : Int) ∧ (leftT n o)[n - 1]? = some (1000, 1) := by
  have hl : (seg 0 o ++ seg (o + 1) (n - o - 1)).length = n - 1 := by
    rw [List.length_append, seg_len, seg_len]; omega
  unfold leftT
  refine ⟨?_, ?_⟩
  · rw [fIx_at _ _ _ _ _ fun x hx => ?_, hl, Nat.zero_add]
    rcases List.mem_append.1 hx with hx | hx
    · have := seg_mem hx
      omega
    · have := seg_mem hx
      omega
  · rw [← hl]
    exact get_at _ _ _
theorem trows_set (l : List (Int × Int)) (i : Nat) (x : Int × Int) : trows (l.set i x) = (trows l).set i (trow x) := by
  unfold trows
  rw [List.map_set]
theorem begunT_set (n o : Nat) (h : o < n) : (begunT n).set o ((o : Int), 6) = overT n o := by
  rw [begunT_split n o h]
  unfold overT
  rw [List.set_append_right _ _ (by rw [seg_len]; exact Nat.le_refl _), seg_len, Nat.sub_self]
  rfl
end Go.Proofs.Ytecmagdefllihaa

/- Rows that lead nowhere, told at a loop's head (cut out of XFs, for seats that lack its imports). -/
namespace Go.Proofs.Ytecmagdefllihaa
open Go.RowKit

theorem HEqv.refl (H : Heap) : HEqv H H := fun _ => OEqv.refl _

/-- what code comes to may be told with its objects' rows called flat -/
theorem EvX.eqv {P : Program} {n0 : Nat} {c : Code} {st s s' : St} {ex : Ex} (h : EvX P n0 c st ex s) (hl : s'.len = s.len) (ht : s'.tm = s.tm) (hn : s'.nx = s.nx) (he : HEqv (heapF s.hp) (heapF s'.hp)) : EvX P n0 c st ex s' := by
  intro E0 H0 w0 s0 E a w hx hs hr hle Q hQ
  refine h E0 H0 w0 s0 E a w hx hs hr hle Q fun E' a' w' t0 t1 t2 t3 t4 => hQ E' a' w' (t0.eqv (HEqv.refl _) he) (hn ▸ t1.eqv he) ⟨t2.size.trans hl.symm, fun t => ?_⟩ t3 (by rw [hn]; exact t4)
  have := t2.rep t
  unfold tmF at this ⊢
  rw [ht]
  exact this
theorem EvX.eqv_in {P : Program} {n0 : Nat} {c : Code} {st st' s : St} {ex : Ex} (h : EvX P n0 c st ex s) (hl : st'.len = st.len) (ht : st'.tm = st.tm) (hn : st'.nx = st.nx) (he : HEqv (heapF st.hp) (heapF st'.hp)) : EvX P n0 c st' ex s := by
  intro E0 H0 w0 s0 E a w hx hs hr hle Q hQ
  refine h E0 H0 w0 s0 E a w (hx.eqv (HEqv.refl _) (fun i => (he i).symm)) (hn ▸ hs.eqv (fun i => (he i).symm)) ⟨hr.size.trans hl, fun t => ?_⟩ (by rw [← hn]; exact hle) Q hQ
  have := hr.rep t
  unfold tmF at this ⊢
  rw [← ht]
  exact this

def objFlat (t : TypeId) (sz : Nat) (l : List (List AV)) : AObj := ⟨t, sz, false, false, .flat l⟩
theorem objFlat_eqv (t : TypeId) (sz : Nat) (l : List (List AV)) : (objAppR t sz l).Eqv (objFlat t sz l) := ⟨rfl, rfl, rfl, rfl, rfl, fun _ _ => rfl⟩

def HLEqv : List (Nat × AObj) → List (Nat × AObj) → Prop
  | [], [] => True
  | (i, x) :: l, (j, y) :: k => i = j ∧ x.Eqv y ∧ HLEqv l k
  | _, _ => False
theorem HLEqv.hp : ∀ (l k : List (Nat × AObj)), HLEqv l k → HEqv (hp l) (hp k)
  | [], [], _ => fun _ => OEqv.refl _
  | (i, x) :: l, (j, y) :: k, h => by
    obtain ⟨rfl, h1, h2⟩ := h
    intro n
    have := HLEqv.hp l k h2 n
    unfold Go.Proofs.Ytecmagdefllihaa.hp
    split
    · exact h1
    · exact this
  | [], _ :: _, h => h.elim
  | _ :: _, [], h => h.elim

/-- a goal's objects, told anew -/
theorem EvX.flat {P : Program} {n0 : Nat} {c : Code} {st : St} {ex : Ex} {G G' : GoalX} (h : EvX P n0 c st ex (G.st n0)) (hl : G'.len = G.len) (ht : G'.tms ++ G'.opn = G.tms ++ G.opn) (hk : G'.k = G.k) (ho : HLEqv (G.objs ++ G.oob) (G'.objs ++ G'.oob)) : EvX P n0 c st ex (G'.st n0) := by
  refine h.eqv hl ?_ ?_ ?_
  · show putsT _ = putsT _; rw [ht]
  · show n0 + _ = n0 + _; rw [hk]
  · show HEqv (heapF (treeH _)) (heapF (treeH _))
    rw [treeH_ok, treeH_ok]
    exact HLEqv.hp _ _ ho

end Go.Proofs.Ytecmagdefllihaa
