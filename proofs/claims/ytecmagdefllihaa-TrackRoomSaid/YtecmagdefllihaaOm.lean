/- Several texts in one: No0, NoRun, No. -/
import Derived.Test.YtecmagdefllihaaUk

/- Which mapping is a flow's, of two: words. -/
namespace Go.Proofs.Ytecmagdefllihaa
open Go.RowKit

def mpR (h out port : Int) : List AV := [.val (.int .i64 17), .val (.int .i64 out), .val (.int .u8 10), .val (.int .u8 0), .val (.int .u8 0), .val (.int .u8 h), .val (.int .i64 port), .val (.int .i64 1), .val (.int .i64 120)]
def mpO (h1 h2 p1 p2 c d : Int) : AObj := ⟨65, 9, false, false, .rows [mpR h1 c p1, mpR h2 d p2]⟩
def flA (hb pt : Int) : AV := .agg [.val (.int .i64 17), .val (.int .u8 10), .val (.int .u8 0), .val (.int .u8 0), .val (.int .u8 hb), .val (.int .i64 pt)]
def flO (hb pt : Int) : AObj := ⟨125, 6, true, false, .rows [[.val (.int .i64 17), .val (.int .u8 10), .val (.int .u8 0), .val (.int .u8 0), .val (.int .u8 hb), .val (.int .i64 pt)]]⟩
def pt2 : AObj := ptab true false 40000 128 0 (.sl 1 0 2 none)
def oG (hb pt h1 h2 p1 p2 c d : Int) (j best : Int) : GoalX := { len := 79, tms := [(0, .ptr 0 0 0), (2, .val (.int .i64 0)), (4, .ptr 2 0 0), (7, .val (.int .i64 best)), (13, .sl 1 0 2 none), (14, .val (.int .i64 2)), (15, .val (.int .i64 j))], objs := [(0, pt2)], oob := [(1, mpO h1 h2 p1 p2 c d), (2, flO hb pt)], k := 1 }
def oE (h1 h2 p1 p2 c d : Int) (best : Int) : GoalX := { len := 79, tms := [(7, .val (.int .i64 best))], objs := [(0, pt2)], oob := [(1, mpO h1 h2 p1 p2 c d)], k := 0 }
def oL (id : Nat) (hb pt h1 h2 p1 p2 c d : Int) (best : Int) : LoopX := { ids := [id], G := oG hb pt h1 h2 p1 p2 c d 0 (-1), ex := .exit 0, E := oE h1 h2 p1 p2 c d best }
end Go.Proofs.Ytecmagdefllihaa

/- Which mapping is a flow's, of two: its rounds. (Printed by wip/tools/gen.py from wip/sym/XSNo.lean.) -/
namespace Go.Proofs.Ytecmagdefllihaa
open Go.RowKit

set_option maxRecDepth 100000 in
theorem out_t0 (hb : Int) (pt : Int) (h1 : Int) (h2 : Int) (p1 : Int) (p2 : Int) (c : Int) (d : Int) : outXS kTime [] Try.prog 104 [AV.ptr 0 0 0, AV.agg [AV.val (Value.int IntKind.i64 (17 : Int)), AV.val (Value.int IntKind.u8 (10 : Int)), AV.val (Value.int IntKind.u8 (0 : Int)), AV.val (Value.int IntKind.u8 (0 : Int)), AV.val (Value.int IntKind.u8 hb), AV.val (Value.int IntKind.i64 pt)], AV.val (Value.int IntKind.i64 (0 : Int))] [(0, { t := 109, sz := 4, exact := true, fz := false, body := Body.rows [[AV.val (Value.int IntKind.i64 (40000 : Int)), AV.val (Value.int IntKind.i64 (128 : Int)), AV.val (Value.int IntKind.i64 (0 : Int)), AV.sl 1 0 2 none]] }), (1, { t := 65, sz := 9, exact := false, fz := false, body := Body.rows [[AV.val (Value.int IntKind.i64 (17 : Int)), AV.val (Value.int IntKind.i64 c), AV.val (Value.int IntKind.u8 (10 : Int)), AV.val (Value.int IntKind.u8 (0 : Int)), AV.val (Value.int IntKind.u8 (0 : Int)), AV.val (Value.int IntKind.u8 h1), AV.val (Value.int IntKind.i64 p1), AV.val (Value.int IntKind.i64 (1 : Int)), AV.val (Value.int IntKind.i64 (120 : Int))], [AV.val (Value.int IntKind.i64 (17 : Int)), AV.val (Value.int IntKind.i64 d), AV.val (Value.int IntKind.u8 (10 : Int)), AV.val (Value.int IntKind.u8 (0 : Int)), AV.val (Value.int IntKind.u8 (0 : Int)), AV.val (Value.int IntKind.u8 h2), AV.val (Value.int IntKind.i64 p2), AV.val (Value.int IntKind.i64 (1 : Int)), AV.val (Value.int IntKind.i64 (120 : Int))]] })] 2 [0, 1] [(3, oL 2 hb pt h1 h2 p1 p2 c d (0 : Int))] =
   some (AV.val (Value.int IntKind.i64 (0 : Int)), [(0, { t := 109, sz := 4, exact := true, fz := false, body := Body.rows [[AV.val (Value.int IntKind.i64 (40000 : Int)), AV.val (Value.int IntKind.i64 (128 : Int)), AV.val (Value.int IntKind.i64 (0 : Int)), AV.sl 1 0 2 none]] }), (1, { t := 65, sz := 9, exact := false, fz := false, body := Body.rows [[AV.val (Value.int IntKind.i64 (17 : Int)), AV.val (Value.int IntKind.i64 c), AV.val (Value.int IntKind.u8 (10 : Int)), AV.val (Value.int IntKind.u8 (0 : Int)), AV.val (Value.int IntKind.u8 (0 : Int)), AV.val (Value.int IntKind.u8 h1), AV.val (Value.int IntKind.i64 p1), AV.val (Value.int IntKind.i64 (1 : Int)), AV.val (Value.int IntKind.i64 (120 : Int))], [AV.val (Value.int IntKind.i64 (17 : Int)), AV.val (Value.int IntKind.i64 d), AV.val (Value.int IntKind.u8 (10 : Int)), AV.val (Value.int IntKind.u8 (0 : Int)), AV.val (Value.int IntKind.u8 (0 : Int)), AV.val (Value.int IntKind.u8 h2), AV.val (Value.int IntKind.i64 p2), AV.val (Value.int IntKind.i64 (1 : Int)), AV.val (Value.int IntKind.i64 (120 : Int))]] })], 4,
   (SameO (some { t := 65, sz := 9, exact := false, fz := false, body := Body.rows [[AV.val (Value.int IntKind.i64 (17 : Int)), AV.val (Value.int IntKind.i64 c), AV.val (Value.int IntKind.u8 (10 : Int)), AV.val (Value.int IntKind.u8 (0 : Int)), AV.val (Value.int IntKind.u8 (0 : Int)), AV.val (Value.int IntKind.u8 h1), AV.val (Value.int IntKind.i64 p1), AV.val (Value.int IntKind.i64 (1 : Int)), AV.val (Value.int IntKind.i64 (120 : Int))], [AV.val (Value.int IntKind.i64 (17 : Int)), AV.val (Value.int IntKind.i64 d), AV.val (Value.int IntKind.u8 (10 : Int)), AV.val (Value.int IntKind.u8 (0 : Int)), AV.val (Value.int IntKind.u8 (0 : Int)), AV.val (Value.int IntKind.u8 h2), AV.val (Value.int IntKind.i64 p2), AV.val (Value.int IntKind.i64 (1 : Int)), AV.val (Value.int IntKind.i64 (120 : Int))]] }) { t := 65, sz := 9, exact := false, fz := false, body := Body.rows [[AV.val (Value.int IntKind.i64 (17 : Int)), AV.val (Value.int IntKind.i64 c), AV.val (Value.int IntKind.u8 (10 : Int)), AV.val (Value.int IntKind.u8 (0 : Int)), AV.val (Value.int IntKind.u8 (0 : Int)), AV.val (Value.int IntKind.u8 h1), AV.val (Value.int IntKind.i64 p1), AV.val (Value.int IntKind.i64 (1 : Int)), AV.val (Value.int IntKind.i64 (120 : Int))], [AV.val (Value.int IntKind.i64 (17 : Int)), AV.val (Value.int IntKind.i64 d), AV.val (Value.int IntKind.u8 (10 : Int)), AV.val (Value.int IntKind.u8 (0 : Int)), AV.val (Value.int IntKind.u8 (0 : Int)), AV.val (Value.int IntKind.u8 h2), AV.val (Value.int IntKind.i64 p2), AV.val (Value.int IntKind.i64 (1 : Int)), AV.val (Value.int IntKind.i64 (120 : Int))]] }) ::
   (SameO (some { t := 125, sz := 6, exact := true, fz := false, body := Body.rows [[AV.val (Value.int IntKind.i64 (17 : Int)), AV.val (Value.int IntKind.u8 (10 : Int)), AV.val (Value.int IntKind.u8 (0 : Int)), AV.val (Value.int IntKind.u8 (0 : Int)), AV.val (Value.int IntKind.u8 hb), AV.val (Value.int IntKind.i64 pt)]] }) { t := 125, sz := 6, exact := true, fz := false, body := Body.rows [[AV.val (Value.int IntKind.i64 (17 : Int)), AV.val (Value.int IntKind.u8 (10 : Int)), AV.val (Value.int IntKind.u8 (0 : Int)), AV.val (Value.int IntKind.u8 (0 : Int)), AV.val (Value.int IntKind.u8 hb), AV.val (Value.int IntKind.i64 pt)]] }) ::
   (EvXL Try.prog 2 (loopAt Try.prog 104 3) (GoalX.st (LoopX.G (oL 2 hb pt h1 h2 p1 p2 c d (0 : Int))) 2) (LoopX.ex (oL 2 hb pt h1 h2 p1 p2 c d (0 : Int))) (GoalX.st (LoopX.E (oL 2 hb pt h1 h2 p1 p2 c d (0 : Int))) 2)) :: []) := by kernel_rfl

set_option maxRecDepth 100000 in
theorem out_t1 (hb : Int) (pt : Int) (h1 : Int) (h2 : Int) (p1 : Int) (p2 : Int) (c : Int) (d : Int) : outXS kTime [] Try.prog 104 [AV.ptr 0 0 0, AV.agg [AV.val (Value.int IntKind.i64 (17 : Int)), AV.val (Value.int IntKind.u8 (10 : Int)), AV.val (Value.int IntKind.u8 (0 : Int)), AV.val (Value.int IntKind.u8 (0 : Int)), AV.val (Value.int IntKind.u8 hb), AV.val (Value.int IntKind.i64 pt)], AV.val (Value.int IntKind.i64 (0 : Int))] [(0, { t := 109, sz := 4, exact := true, fz := false, body := Body.rows [[AV.val (Value.int IntKind.i64 (40000 : Int)), AV.val (Value.int IntKind.i64 (128 : Int)), AV.val (Value.int IntKind.i64 (0 : Int)), AV.sl 1 0 2 none]] }), (1, { t := 65, sz := 9, exact := false, fz := false, body := Body.rows [[AV.val (Value.int IntKind.i64 (17 : Int)), AV.val (Value.int IntKind.i64 c), AV.val (Value.int IntKind.u8 (10 : Int)), AV.val (Value.int IntKind.u8 (0 : Int)), AV.val (Value.int IntKind.u8 (0 : Int)), AV.val (Value.int IntKind.u8 h1), AV.val (Value.int IntKind.i64 p1), AV.val (Value.int IntKind.i64 (1 : Int)), AV.val (Value.int IntKind.i64 (120 : Int))], [AV.val (Value.int IntKind.i64 (17 : Int)), AV.val (Value.int IntKind.i64 d), AV.val (Value.int IntKind.u8 (10 : Int)), AV.val (Value.int IntKind.u8 (0 : Int)), AV.val (Value.int IntKind.u8 (0 : Int)), AV.val (Value.int IntKind.u8 h2), AV.val (Value.int IntKind.i64 p2), AV.val (Value.int IntKind.i64 (1 : Int)), AV.val (Value.int IntKind.i64 (120 : Int))]] })] 2 [0, 1] [(3, oL 2 hb pt h1 h2 p1 p2 c d (1 : Int))] =
   some (AV.val (Value.int IntKind.i64 (1 : Int)), [(0, { t := 109, sz := 4, exact := true, fz := false, body := Body.rows [[AV.val (Value.int IntKind.i64 (40000 : Int)), AV.val (Value.int IntKind.i64 (128 : Int)), AV.val (Value.int IntKind.i64 (0 : Int)), AV.sl 1 0 2 none]] }), (1, { t := 65, sz := 9, exact := false, fz := false, body := Body.rows [[AV.val (Value.int IntKind.i64 (17 : Int)), AV.val (Value.int IntKind.i64 c), AV.val (Value.int IntKind.u8 (10 : Int)), AV.val (Value.int IntKind.u8 (0 : Int)), AV.val (Value.int IntKind.u8 (0 : Int)), AV.val (Value.int IntKind.u8 h1), AV.val (Value.int IntKind.i64 p1), AV.val (Value.int IntKind.i64 (1 : Int)), AV.val (Value.int IntKind.i64 (120 : Int))], [AV.val (Value.int IntKind.i64 (17 : Int)), AV.val (Value.int IntKind.i64 d), AV.val (Value.int IntKind.u8 (10 : Int)), AV.val (Value.int IntKind.u8 (0 : Int)), AV.val (Value.int IntKind.u8 (0 : Int)), AV.val (Value.int IntKind.u8 h2), AV.val (Value.int IntKind.i64 p2), AV.val (Value.int IntKind.i64 (1 : Int)), AV.val (Value.int IntKind.i64 (120 : Int))]] })], 4,
   (SameO (some { t := 65, sz := 9, exact := false, fz := false, body := Body.rows [[AV.val (Value.int IntKind.i64 (17 : Int)), AV.val (Value.int IntKind.i64 c), AV.val (Value.int IntKind.u8 (10 : Int)), AV.val (Value.int IntKind.u8 (0 : Int)), AV.val (Value.int IntKind.u8 (0 : Int)), AV.val (Value.int IntKind.u8 h1), AV.val (Value.int IntKind.i64 p1), AV.val (Value.int IntKind.i64 (1 : Int)), AV.val (Value.int IntKind.i64 (120 : Int))], [AV.val (Value.int IntKind.i64 (17 : Int)), AV.val (Value.int IntKind.i64 d), AV.val (Value.int IntKind.u8 (10 : Int)), AV.val (Value.int IntKind.u8 (0 : Int)), AV.val (Value.int IntKind.u8 (0 : Int)), AV.val (Value.int IntKind.u8 h2), AV.val (Value.int IntKind.i64 p2), AV.val (Value.int IntKind.i64 (1 : Int)), AV.val (Value.int IntKind.i64 (120 : Int))]] }) { t := 65, sz := 9, exact := false, fz := false, body := Body.rows [[AV.val (Value.int IntKind.i64 (17 : Int)), AV.val (Value.int IntKind.i64 c), AV.val (Value.int IntKind.u8 (10 : Int)), AV.val (Value.int IntKind.u8 (0 : Int)), AV.val (Value.int IntKind.u8 (0 : Int)), AV.val (Value.int IntKind.u8 h1), AV.val (Value.int IntKind.i64 p1), AV.val (Value.int IntKind.i64 (1 : Int)), AV.val (Value.int IntKind.i64 (120 : Int))], [AV.val (Value.int IntKind.i64 (17 : Int)), AV.val (Value.int IntKind.i64 d), AV.val (Value.int IntKind.u8 (10 : Int)), AV.val (Value.int IntKind.u8 (0 : Int)), AV.val (Value.int IntKind.u8 (0 : Int)), AV.val (Value.int IntKind.u8 h2), AV.val (Value.int IntKind.i64 p2), AV.val (Value.int IntKind.i64 (1 : Int)), AV.val (Value.int IntKind.i64 (120 : Int))]] }) ::
   (SameO (some { t := 125, sz := 6, exact := true, fz := false, body := Body.rows [[AV.val (Value.int IntKind.i64 (17 : Int)), AV.val (Value.int IntKind.u8 (10 : Int)), AV.val (Value.int IntKind.u8 (0 : Int)), AV.val (Value.int IntKind.u8 (0 : Int)), AV.val (Value.int IntKind.u8 hb), AV.val (Value.int IntKind.i64 pt)]] }) { t := 125, sz := 6, exact := true, fz := false, body := Body.rows [[AV.val (Value.int IntKind.i64 (17 : Int)), AV.val (Value.int IntKind.u8 (10 : Int)), AV.val (Value.int IntKind.u8 (0 : Int)), AV.val (Value.int IntKind.u8 (0 : Int)), AV.val (Value.int IntKind.u8 hb), AV.val (Value.int IntKind.i64 pt)]] }) ::
   (EvXL Try.prog 2 (loopAt Try.prog 104 3) (GoalX.st (LoopX.G (oL 2 hb pt h1 h2 p1 p2 c d (1 : Int))) 2) (LoopX.ex (oL 2 hb pt h1 h2 p1 p2 c d (1 : Int))) (GoalX.st (LoopX.E (oL 2 hb pt h1 h2 p1 p2 c d (1 : Int))) 2)) :: []) := by kernel_rfl

set_option maxRecDepth 100000 in
theorem out_m0 (hb : Int) (pt : Int) (h1 : Int) (h2 : Int) (p1 : Int) (p2 : Int) (c : Int) (d : Int) : stepXS kTime [(104, { op := [(5, 18, .br false), (5, 24, .br false)], gd := [(5, 13, false), (5, 14, false), (5, 15, false), (5, 16, false), (5, 17, false), (5, 20, false), (5, 21, false), (5, 22, false), (5, 23, false)] })] Try.prog 104 3 (oG hb pt h1 h2 p1 p2 c d (0 : Int) (-1 : Int)) (oG hb pt h1 h2 p1 p2 c d (1 : Int) (0 : Int)) [2] 2 [] =
   some (.normal,
   rp 6 ((!(true && (true && (true && (h1 == hb && true))))) = false) (
   rp 5 ((p1 != pt) = false) (
   (SameO (some { t := 65, sz := 9, exact := false, fz := false, body := Body.rows [[AV.val (Value.int IntKind.i64 (17 : Int)), AV.val (Value.int IntKind.i64 c), AV.val (Value.int IntKind.u8 (10 : Int)), AV.val (Value.int IntKind.u8 (0 : Int)), AV.val (Value.int IntKind.u8 (0 : Int)), AV.val (Value.int IntKind.u8 h1), AV.val (Value.int IntKind.i64 p1), AV.val (Value.int IntKind.i64 (1 : Int)), AV.val (Value.int IntKind.i64 (120 : Int))], [AV.val (Value.int IntKind.i64 (17 : Int)), AV.val (Value.int IntKind.i64 d), AV.val (Value.int IntKind.u8 (10 : Int)), AV.val (Value.int IntKind.u8 (0 : Int)), AV.val (Value.int IntKind.u8 (0 : Int)), AV.val (Value.int IntKind.u8 h2), AV.val (Value.int IntKind.i64 p2), AV.val (Value.int IntKind.i64 (1 : Int)), AV.val (Value.int IntKind.i64 (120 : Int))]] }) { t := 65, sz := 9, exact := false, fz := false, body := Body.rows [[AV.val (Value.int IntKind.i64 (17 : Int)), AV.val (Value.int IntKind.i64 c), AV.val (Value.int IntKind.u8 (10 : Int)), AV.val (Value.int IntKind.u8 (0 : Int)), AV.val (Value.int IntKind.u8 (0 : Int)), AV.val (Value.int IntKind.u8 h1), AV.val (Value.int IntKind.i64 p1), AV.val (Value.int IntKind.i64 (1 : Int)), AV.val (Value.int IntKind.i64 (120 : Int))], [AV.val (Value.int IntKind.i64 (17 : Int)), AV.val (Value.int IntKind.i64 d), AV.val (Value.int IntKind.u8 (10 : Int)), AV.val (Value.int IntKind.u8 (0 : Int)), AV.val (Value.int IntKind.u8 (0 : Int)), AV.val (Value.int IntKind.u8 h2), AV.val (Value.int IntKind.i64 p2), AV.val (Value.int IntKind.i64 (1 : Int)), AV.val (Value.int IntKind.i64 (120 : Int))]] }) ::
   (SameO (some { t := 125, sz := 6, exact := true, fz := false, body := Body.rows [[AV.val (Value.int IntKind.i64 (17 : Int)), AV.val (Value.int IntKind.u8 (10 : Int)), AV.val (Value.int IntKind.u8 (0 : Int)), AV.val (Value.int IntKind.u8 (0 : Int)), AV.val (Value.int IntKind.u8 hb), AV.val (Value.int IntKind.i64 pt)]] }) { t := 125, sz := 6, exact := true, fz := false, body := Body.rows [[AV.val (Value.int IntKind.i64 (17 : Int)), AV.val (Value.int IntKind.u8 (10 : Int)), AV.val (Value.int IntKind.u8 (0 : Int)), AV.val (Value.int IntKind.u8 (0 : Int)), AV.val (Value.int IntKind.u8 hb), AV.val (Value.int IntKind.i64 pt)]] }) :: []))) := by kernel_rfl

set_option maxRecDepth 100000 in
theorem out_s1 (hb : Int) (pt : Int) (h1 : Int) (h2 : Int) (p1 : Int) (p2 : Int) (c : Int) (d : Int) : stepXS kTime [(104, { op := [(5, 18, .br true)], gd := [(5, 13, true), (5, 14, true), (5, 15, true), (5, 16, true), (5, 17, true)] })] Try.prog 104 3 (oG hb pt h1 h2 p1 p2 c d (1 : Int) (0 : Int)) (oG hb pt h1 h2 p1 p2 c d (2 : Int) (0 : Int)) [2] 2 [] =
   some (.normal,
   rp 6 ((!(true && (true && (true && (h2 == hb && true))))) = true) (
   (SameO (some { t := 65, sz := 9, exact := false, fz := false, body := Body.rows [[AV.val (Value.int IntKind.i64 (17 : Int)), AV.val (Value.int IntKind.i64 c), AV.val (Value.int IntKind.u8 (10 : Int)), AV.val (Value.int IntKind.u8 (0 : Int)), AV.val (Value.int IntKind.u8 (0 : Int)), AV.val (Value.int IntKind.u8 h1), AV.val (Value.int IntKind.i64 p1), AV.val (Value.int IntKind.i64 (1 : Int)), AV.val (Value.int IntKind.i64 (120 : Int))], [AV.val (Value.int IntKind.i64 (17 : Int)), AV.val (Value.int IntKind.i64 d), AV.val (Value.int IntKind.u8 (10 : Int)), AV.val (Value.int IntKind.u8 (0 : Int)), AV.val (Value.int IntKind.u8 (0 : Int)), AV.val (Value.int IntKind.u8 h2), AV.val (Value.int IntKind.i64 p2), AV.val (Value.int IntKind.i64 (1 : Int)), AV.val (Value.int IntKind.i64 (120 : Int))]] }) { t := 65, sz := 9, exact := false, fz := false, body := Body.rows [[AV.val (Value.int IntKind.i64 (17 : Int)), AV.val (Value.int IntKind.i64 c), AV.val (Value.int IntKind.u8 (10 : Int)), AV.val (Value.int IntKind.u8 (0 : Int)), AV.val (Value.int IntKind.u8 (0 : Int)), AV.val (Value.int IntKind.u8 h1), AV.val (Value.int IntKind.i64 p1), AV.val (Value.int IntKind.i64 (1 : Int)), AV.val (Value.int IntKind.i64 (120 : Int))], [AV.val (Value.int IntKind.i64 (17 : Int)), AV.val (Value.int IntKind.i64 d), AV.val (Value.int IntKind.u8 (10 : Int)), AV.val (Value.int IntKind.u8 (0 : Int)), AV.val (Value.int IntKind.u8 (0 : Int)), AV.val (Value.int IntKind.u8 h2), AV.val (Value.int IntKind.i64 p2), AV.val (Value.int IntKind.i64 (1 : Int)), AV.val (Value.int IntKind.i64 (120 : Int))]] }) ::
   (SameO (some { t := 125, sz := 6, exact := true, fz := false, body := Body.rows [[AV.val (Value.int IntKind.i64 (17 : Int)), AV.val (Value.int IntKind.u8 (10 : Int)), AV.val (Value.int IntKind.u8 (0 : Int)), AV.val (Value.int IntKind.u8 (0 : Int)), AV.val (Value.int IntKind.u8 hb), AV.val (Value.int IntKind.i64 pt)]] }) { t := 125, sz := 6, exact := true, fz := false, body := Body.rows [[AV.val (Value.int IntKind.i64 (17 : Int)), AV.val (Value.int IntKind.u8 (10 : Int)), AV.val (Value.int IntKind.u8 (0 : Int)), AV.val (Value.int IntKind.u8 (0 : Int)), AV.val (Value.int IntKind.u8 hb), AV.val (Value.int IntKind.i64 pt)]] }) :: [])) := by kernel_rfl

set_option maxRecDepth 100000 in
theorem out_e0 (hb : Int) (pt : Int) (h1 : Int) (h2 : Int) (p1 : Int) (p2 : Int) (c : Int) (d : Int) : stepXS kTime [] Try.prog 104 3 (oG hb pt h1 h2 p1 p2 c d (2 : Int) (0 : Int)) (oE h1 h2 p1 p2 c d (0 : Int)) [] 2 [] =
   some (.exit 0,
   (SameO (some { t := 65, sz := 9, exact := false, fz := false, body := Body.rows [[AV.val (Value.int IntKind.i64 (17 : Int)), AV.val (Value.int IntKind.i64 c), AV.val (Value.int IntKind.u8 (10 : Int)), AV.val (Value.int IntKind.u8 (0 : Int)), AV.val (Value.int IntKind.u8 (0 : Int)), AV.val (Value.int IntKind.u8 h1), AV.val (Value.int IntKind.i64 p1), AV.val (Value.int IntKind.i64 (1 : Int)), AV.val (Value.int IntKind.i64 (120 : Int))], [AV.val (Value.int IntKind.i64 (17 : Int)), AV.val (Value.int IntKind.i64 d), AV.val (Value.int IntKind.u8 (10 : Int)), AV.val (Value.int IntKind.u8 (0 : Int)), AV.val (Value.int IntKind.u8 (0 : Int)), AV.val (Value.int IntKind.u8 h2), AV.val (Value.int IntKind.i64 p2), AV.val (Value.int IntKind.i64 (1 : Int)), AV.val (Value.int IntKind.i64 (120 : Int))]] }) { t := 65, sz := 9, exact := false, fz := false, body := Body.rows [[AV.val (Value.int IntKind.i64 (17 : Int)), AV.val (Value.int IntKind.i64 c), AV.val (Value.int IntKind.u8 (10 : Int)), AV.val (Value.int IntKind.u8 (0 : Int)), AV.val (Value.int IntKind.u8 (0 : Int)), AV.val (Value.int IntKind.u8 h1), AV.val (Value.int IntKind.i64 p1), AV.val (Value.int IntKind.i64 (1 : Int)), AV.val (Value.int IntKind.i64 (120 : Int))], [AV.val (Value.int IntKind.i64 (17 : Int)), AV.val (Value.int IntKind.i64 d), AV.val (Value.int IntKind.u8 (10 : Int)), AV.val (Value.int IntKind.u8 (0 : Int)), AV.val (Value.int IntKind.u8 (0 : Int)), AV.val (Value.int IntKind.u8 h2), AV.val (Value.int IntKind.i64 p2), AV.val (Value.int IntKind.i64 (1 : Int)), AV.val (Value.int IntKind.i64 (120 : Int))]] }) :: []) := by kernel_rfl

set_option maxRecDepth 100000 in
theorem out_s0 (hb : Int) (pt : Int) (h1 : Int) (h2 : Int) (p1 : Int) (p2 : Int) (c : Int) (d : Int) : stepXS kTime [(104, { op := [(5, 18, .br true)], gd := [(5, 13, true), (5, 14, true), (5, 15, true), (5, 16, true), (5, 17, true)] })] Try.prog 104 3 (oG hb pt h1 h2 p1 p2 c d (0 : Int) (-1 : Int)) (oG hb pt h1 h2 p1 p2 c d (1 : Int) (-1 : Int)) [2] 2 [] =
   some (.normal,
   rp 6 ((!(true && (true && (true && (h1 == hb && true))))) = true) (
   (SameO (some { t := 65, sz := 9, exact := false, fz := false, body := Body.rows [[AV.val (Value.int IntKind.i64 (17 : Int)), AV.val (Value.int IntKind.i64 c), AV.val (Value.int IntKind.u8 (10 : Int)), AV.val (Value.int IntKind.u8 (0 : Int)), AV.val (Value.int IntKind.u8 (0 : Int)), AV.val (Value.int IntKind.u8 h1), AV.val (Value.int IntKind.i64 p1), AV.val (Value.int IntKind.i64 (1 : Int)), AV.val (Value.int IntKind.i64 (120 : Int))], [AV.val (Value.int IntKind.i64 (17 : Int)), AV.val (Value.int IntKind.i64 d), AV.val (Value.int IntKind.u8 (10 : Int)), AV.val (Value.int IntKind.u8 (0 : Int)), AV.val (Value.int IntKind.u8 (0 : Int)), AV.val (Value.int IntKind.u8 h2), AV.val (Value.int IntKind.i64 p2), AV.val (Value.int IntKind.i64 (1 : Int)), AV.val (Value.int IntKind.i64 (120 : Int))]] }) { t := 65, sz := 9, exact := false, fz := false, body := Body.rows [[AV.val (Value.int IntKind.i64 (17 : Int)), AV.val (Value.int IntKind.i64 c), AV.val (Value.int IntKind.u8 (10 : Int)), AV.val (Value.int IntKind.u8 (0 : Int)), AV.val (Value.int IntKind.u8 (0 : Int)), AV.val (Value.int IntKind.u8 h1), AV.val (Value.int IntKind.i64 p1), AV.val (Value.int IntKind.i64 (1 : Int)), AV.val (Value.int IntKind.i64 (120 : Int))], [AV.val (Value.int IntKind.i64 (17 : Int)), AV.val (Value.int IntKind.i64 d), AV.val (Value.int IntKind.u8 (10 : Int)), AV.val (Value.int IntKind.u8 (0 : Int)), AV.val (Value.int IntKind.u8 (0 : Int)), AV.val (Value.int IntKind.u8 h2), AV.val (Value.int IntKind.i64 p2), AV.val (Value.int IntKind.i64 (1 : Int)), AV.val (Value.int IntKind.i64 (120 : Int))]] }) ::
   (SameO (some { t := 125, sz := 6, exact := true, fz := false, body := Body.rows [[AV.val (Value.int IntKind.i64 (17 : Int)), AV.val (Value.int IntKind.u8 (10 : Int)), AV.val (Value.int IntKind.u8 (0 : Int)), AV.val (Value.int IntKind.u8 (0 : Int)), AV.val (Value.int IntKind.u8 hb), AV.val (Value.int IntKind.i64 pt)]] }) { t := 125, sz := 6, exact := true, fz := false, body := Body.rows [[AV.val (Value.int IntKind.i64 (17 : Int)), AV.val (Value.int IntKind.u8 (10 : Int)), AV.val (Value.int IntKind.u8 (0 : Int)), AV.val (Value.int IntKind.u8 (0 : Int)), AV.val (Value.int IntKind.u8 hb), AV.val (Value.int IntKind.i64 pt)]] }) :: [])) := by kernel_rfl

set_option maxRecDepth 100000 in
theorem out_m1 (hb : Int) (pt : Int) (h1 : Int) (h2 : Int) (p1 : Int) (p2 : Int) (c : Int) (d : Int) : stepXS kTime [(104, { op := [(5, 18, .br false), (5, 24, .br false)], gd := [(5, 13, false), (5, 14, false), (5, 15, false), (5, 16, false), (5, 17, false), (5, 20, false), (5, 21, false), (5, 22, false), (5, 23, false)] })] Try.prog 104 3 (oG hb pt h1 h2 p1 p2 c d (1 : Int) (-1 : Int)) (oG hb pt h1 h2 p1 p2 c d (2 : Int) (1 : Int)) [2] 2 [] =
   some (.normal,
   rp 6 ((!(true && (true && (true && (h2 == hb && true))))) = false) (
   rp 5 ((p2 != pt) = false) (
   (SameO (some { t := 65, sz := 9, exact := false, fz := false, body := Body.rows [[AV.val (Value.int IntKind.i64 (17 : Int)), AV.val (Value.int IntKind.i64 c), AV.val (Value.int IntKind.u8 (10 : Int)), AV.val (Value.int IntKind.u8 (0 : Int)), AV.val (Value.int IntKind.u8 (0 : Int)), AV.val (Value.int IntKind.u8 h1), AV.val (Value.int IntKind.i64 p1), AV.val (Value.int IntKind.i64 (1 : Int)), AV.val (Value.int IntKind.i64 (120 : Int))], [AV.val (Value.int IntKind.i64 (17 : Int)), AV.val (Value.int IntKind.i64 d), AV.val (Value.int IntKind.u8 (10 : Int)), AV.val (Value.int IntKind.u8 (0 : Int)), AV.val (Value.int IntKind.u8 (0 : Int)), AV.val (Value.int IntKind.u8 h2), AV.val (Value.int IntKind.i64 p2), AV.val (Value.int IntKind.i64 (1 : Int)), AV.val (Value.int IntKind.i64 (120 : Int))]] }) { t := 65, sz := 9, exact := false, fz := false, body := Body.rows [[AV.val (Value.int IntKind.i64 (17 : Int)), AV.val (Value.int IntKind.i64 c), AV.val (Value.int IntKind.u8 (10 : Int)), AV.val (Value.int IntKind.u8 (0 : Int)), AV.val (Value.int IntKind.u8 (0 : Int)), AV.val (Value.int IntKind.u8 h1), AV.val (Value.int IntKind.i64 p1), AV.val (Value.int IntKind.i64 (1 : Int)), AV.val (Value.int IntKind.i64 (120 : Int))], [AV.val (Value.int IntKind.i64 (17 : Int)), AV.val (Value.int IntKind.i64 d), AV.val (Value.int IntKind.u8 (10 : Int)), AV.val (Value.int IntKind.u8 (0 : Int)), AV.val (Value.int IntKind.u8 (0 : Int)), AV.val (Value.int IntKind.u8 h2), AV.val (Value.int IntKind.i64 p2), AV.val (Value.int IntKind.i64 (1 : Int)), AV.val (Value.int IntKind.i64 (120 : Int))]] }) ::
   (SameO (some { t := 125, sz := 6, exact := true, fz := false, body := Body.rows [[AV.val (Value.int IntKind.i64 (17 : Int)), AV.val (Value.int IntKind.u8 (10 : Int)), AV.val (Value.int IntKind.u8 (0 : Int)), AV.val (Value.int IntKind.u8 (0 : Int)), AV.val (Value.int IntKind.u8 hb), AV.val (Value.int IntKind.i64 pt)]] }) { t := 125, sz := 6, exact := true, fz := false, body := Body.rows [[AV.val (Value.int IntKind.i64 (17 : Int)), AV.val (Value.int IntKind.u8 (10 : Int)), AV.val (Value.int IntKind.u8 (0 : Int)), AV.val (Value.int IntKind.u8 (0 : Int)), AV.val (Value.int IntKind.u8 hb), AV.val (Value.int IntKind.i64 pt)]] }) :: []))) := by kernel_rfl

set_option maxRecDepth 100000 in
theorem out_e1 (hb : Int) (pt : Int) (h1 : Int) (h2 : Int) (p1 : Int) (p2 : Int) (c : Int) (d : Int) : stepXS kTime [] Try.prog 104 3 (oG hb pt h1 h2 p1 p2 c d (2 : Int) (1 : Int)) (oE h1 h2 p1 p2 c d (1 : Int)) [] 2 [] =
   some (.exit 0,
   (SameO (some { t := 65, sz := 9, exact := false, fz := false, body := Body.rows [[AV.val (Value.int IntKind.i64 (17 : Int)), AV.val (Value.int IntKind.i64 c), AV.val (Value.int IntKind.u8 (10 : Int)), AV.val (Value.int IntKind.u8 (0 : Int)), AV.val (Value.int IntKind.u8 (0 : Int)), AV.val (Value.int IntKind.u8 h1), AV.val (Value.int IntKind.i64 p1), AV.val (Value.int IntKind.i64 (1 : Int)), AV.val (Value.int IntKind.i64 (120 : Int))], [AV.val (Value.int IntKind.i64 (17 : Int)), AV.val (Value.int IntKind.i64 d), AV.val (Value.int IntKind.u8 (10 : Int)), AV.val (Value.int IntKind.u8 (0 : Int)), AV.val (Value.int IntKind.u8 (0 : Int)), AV.val (Value.int IntKind.u8 h2), AV.val (Value.int IntKind.i64 p2), AV.val (Value.int IntKind.i64 (1 : Int)), AV.val (Value.int IntKind.i64 (120 : Int))]] }) { t := 65, sz := 9, exact := false, fz := false, body := Body.rows [[AV.val (Value.int IntKind.i64 (17 : Int)), AV.val (Value.int IntKind.i64 c), AV.val (Value.int IntKind.u8 (10 : Int)), AV.val (Value.int IntKind.u8 (0 : Int)), AV.val (Value.int IntKind.u8 (0 : Int)), AV.val (Value.int IntKind.u8 h1), AV.val (Value.int IntKind.i64 p1), AV.val (Value.int IntKind.i64 (1 : Int)), AV.val (Value.int IntKind.i64 (120 : Int))], [AV.val (Value.int IntKind.i64 (17 : Int)), AV.val (Value.int IntKind.i64 d), AV.val (Value.int IntKind.u8 (10 : Int)), AV.val (Value.int IntKind.u8 (0 : Int)), AV.val (Value.int IntKind.u8 (0 : Int)), AV.val (Value.int IntKind.u8 h2), AV.val (Value.int IntKind.i64 p2), AV.val (Value.int IntKind.i64 (1 : Int)), AV.val (Value.int IntKind.i64 (120 : Int))]] }) :: []) := by kernel_rfl
end Go.Proofs.Ytecmagdefllihaa

/- Which mapping is a flow's, of two: known to the engine. -/
namespace Go.Proofs.Ytecmagdefllihaa
open Go.RowKit

abbrev outF : FuncId := 104
theorem nb_f {a b : Int} (h : a = b) : (!(true && (true && (true && (a == b && true))))) = false := by simp [h]
theorem nb_t {a b : Int} (h : a ≠ b) : (!(true && (true && (true && (a == b && true))))) = true := by simp [h]
theorem bn_f {a b : Int} (h : a = b) : (a != b) = false := by simp [h]

theorem out_first (hb pt h1 h2 p1 p2 c d : Int) (e1 : h1 = hb) (e2 : p1 = pt) (e3 : h2 ≠ hb) :
    ACall Try.prog outF [.ptr 0 0 0, flA hb pt, .val (.int .i64 0)] [(0, pt2), (1, mpO h1 h2 p1 p2 c d)] 2 (.val (.int .i64 0)) [(0, pt2), (1, mpO h1 h2 p1 p2 c d)] 4 :=
  outXS_ok kTime_ok (out_t0 hb pt h1 h2 p1 p2 c d) (allCons rfl (allCons rfl (allCons
    (EvXL.step (stepXS_ok kTime_ok (out_m0 hb pt h1 h2 p1 p2 c d) (allRp _ (nb_f e1) (allRp _ (bn_f e2) (allCons rfl (allCons rfl allNil)))))
      (EvXL.step (stepXS_ok kTime_ok (out_s1 hb pt h1 h2 p1 p2 c d) (allRp _ (nb_t e3) (allCons rfl (allCons rfl allNil))))
        (EvXL.last (stepXS_ok kTime_ok (out_e0 hb pt h1 h2 p1 p2 c d) (allCons rfl allNil)) (by simp [oL])))) allNil)))

theorem out_second (hb pt h1 h2 p1 p2 c d : Int) (e1 : h2 = hb) (e2 : p2 = pt) (e3 : h1 ≠ hb) :
    ACall Try.prog outF [.ptr 0 0 0, flA hb pt, .val (.int .i64 0)] [(0, pt2), (1, mpO h1 h2 p1 p2 c d)] 2 (.val (.int .i64 1)) [(0, pt2), (1, mpO h1 h2 p1 p2 c d)] 4 :=
  outXS_ok kTime_ok (out_t1 hb pt h1 h2 p1 p2 c d) (allCons rfl (allCons rfl (allCons
    (EvXL.step (stepXS_ok kTime_ok (out_s0 hb pt h1 h2 p1 p2 c d) (allRp _ (nb_t e3) (allCons rfl (allCons rfl allNil))))
      (EvXL.step (stepXS_ok kTime_ok (out_m1 hb pt h1 h2 p1 p2 c d) (allRp _ (nb_f e1) (allRp _ (bn_f e2) (allCons rfl (allCons rfl allNil)))))
        (EvXL.last (stepXS_ok kTime_ok (out_e1 hb pt h1 h2 p1 p2 c d) (allCons rfl allNil)) (by simp [oL])))) allNil)))

theorem ACall.weak {P : Program} {g : FuncId} {xs : List AV} {L L1 L2 : List (Nat × AObj)} {nx n1 : Nat} {v : AV} (h : ACall P g xs L nx v L1 n1) (hs : ∀ id o, hp L2 id = some o → hp L1 id = some o) : ACall P g xs L nx v L2 n1 := by
  intro E w vs s r
  refine Calls.mono (h E w vs s r) fun e w' hh => ?_
  obtain ⟨E', u, rfl, t1, t2, t3⟩ := hh
  exact ⟨E', u, rfl, t1.sub hs, t2, ⟨t3.f, t3.nw, t3.I, t3.I', t3.fr, fun b ⟨id, o, c, z, h1, h2⟩ => t3.hb b ⟨id, o, c, z, hs id o h1, h2⟩, t3.size, t3.os, t3.tape, t3.output⟩⟩

theorem hp_filter_of (f : Nat → Bool) : ∀ (K : List (Nat × AObj)) (k : Nat), f k = true → hp (K.filter fun p => f p.1) k = hp K k
  | [], k, _ => rfl
  | (i, y) :: K, k, h => by
    by_cases hf : f i = true
    · rw [List.filter_cons_of_pos (by simpa using hf)]
      simp only [hp]
      rw [hp_filter_of f K k h]
    · rw [List.filter_cons_of_neg (by simpa using hf), hp_filter_of f K k h]
      simp only [hp]
      rw [if_neg fun e => hf (by rw [← e]; exact h)]

/-- the first call finds the first mapping, the later one the second -/
def kOut (N : Nat) : Inl := fun g xs L nx =>
  if g = outF then
    match xs with
    | [.ptr id 0 0, .agg [.val (.int .i64 17), .val (.int .u8 10), .val (.int .u8 0), .val (.int .u8 0), .val (.int .u8 hb), .val (.int .i64 pt)], .val (.int .i64 0)] =>
      match hp L id with
      | some ⟨t1, 4, true, false, .rows [[.val (.int .i64 40000), .val (.int .i64 128), .val (.int .i64 0), .sl id2 0 2 none]]⟩ =>
        match hp L id2 with
        | some ⟨t2, 9, false, false, .rows [[.val (.int .i64 17), .val (.int .i64 c), .val (.int .u8 10), .val (.int .u8 0), .val (.int .u8 0), .val (.int .u8 h1), .val (.int .i64 p1), .val (.int .i64 1), .val (.int .i64 120)],
            [.val (.int .i64 17), .val (.int .i64 d), .val (.int .u8 10), .val (.int .u8 0), .val (.int .u8 0), .val (.int .u8 h2), .val (.int .i64 p2), .val (.int .i64 1), .val (.int .i64 120)]]⟩ =>
          if t1 = 109 ∧ t2 = 65 ∧ id < nx ∧ id2 < nx ∧ id ≠ id2 then
            if nx < N then some (.val (.int .i64 0), L, nx + 200, [h1 = hb, p1 = pt, h2 ≠ hb])
            else some (.val (.int .i64 1), L, nx + 200, [h2 = hb, p2 = pt, h1 ≠ hb])
          else none
        | _ => none
      | _ => none
    | _ => none
  else none

theorem out_used {L : List (Nat × AObj)} {nx id id2 : Nat} {hb pt h1 h2 p1 p2 c d : Int} {v : Value} (h : ACall Try.prog outF [.ptr 0 0 0, flA hb pt, .val (.int .i64 0)] [(0, pt2), (1, mpO h1 h2 p1 p2 c d)] 2 (.val v) [(0, pt2), (1, mpO h1 h2 p1 p2 c d)] 4)
    (q1 : hp L id = some (ptab true false 40000 128 0 (.sl id2 0 2 none))) (q2 : hp L id2 = some (mpO h1 h2 p1 p2 c d)) (h3 : id < nx ∧ id2 < nx ∧ id ≠ id2) :
    ACall Try.prog outF [.ptr id 0 0, flA hb pt, .val (.int .i64 0)] L nx (.val v) L (nx + 200) := by
  refine ACall.weak (L1 := [(id, ptab true false 40000 128 0 (.sl id2 0 2 none)), (id2, mpO h1 h2 p1 p2 c d)] ++ L.filter fun p => (fun k => ![id, id2].contains k) p.1) ?_ fun k o hk => ?_
  rotate_left
  · by_cases e : k = id
    · subst e; rw [q1] at hk; injection hk with hk; subst hk; simp [hp]
    · by_cases e2 : k = id2
      · subst e2; rw [q2] at hk; injection hk with hk; subst hk; simp [hp, e]
      · simp only [List.cons_append, List.nil_append, hp, if_neg e, if_neg e2]
        rw [hp_filter_of (fun k => ![id, id2].contains k) L k (by simp [e, e2])]
        exact hk
  have := ACall.used (ids := [id, id2]) (K := L) (nx := nx) (h : ACall Try.prog _ _ _ [id, id2].length _ _ 4) (by simp [h3.2.2]) (by simp [h3.1, h3.2.1]) (by simp) (fun m x hm => ?_)
  · refine ACall.up (n1 := nx + (4 - 2)) ?_ (by omega)
    simpa [renL, AV.ren, renN, renH, AObj.ren, pt2, ptab, mpO, mpR, flA] using this
  · simp only [hp] at hm
    by_cases e0 : m = 0
    · subst e0
      simp at hm
      subst hm
      exact ⟨by simp, by simpa [renN, AObj.ren, pt2, ptab, renL, AV.ren] using q1⟩
    · rw [if_neg e0] at hm
      by_cases e1 : m = 1
      · subst e1
        simp at hm
        subst hm
        exact ⟨by simp, by simpa [renN, AObj.ren, mpO, mpR, renL, AV.ren] using q2⟩
      · rw [if_neg e1] at hm; cases hm

theorem kOut_ok (N : Nat) : InlOk Try.prog (kOut N) := by
  intro g xs L nx v L' nx' q h hq
  unfold kOut at h
  split at h
  · rename_i hg
    subst hg
    split at h
    · rename_i id hb pt
      split at h
      · rename_i t1 id2 q1
        split at h
        · rename_i t2 c h1 p1 d h2 p2 q2
          split at h
          · rename_i hc
            obtain ⟨rfl, rfl, hc⟩ := hc
            split at h
            · simp only [Option.some.injEq, Prod.mk.injEq] at h
              obtain ⟨rfl, rfl, rfl, rfl⟩ := h
              have x : ∀ p ∈ _, p := hq
              simp only [List.forall_mem_cons, List.not_mem_nil, false_implies, implies_true, and_true] at x
              exact ⟨out_used (out_first hb pt h1 h2 p1 p2 c d x.1 x.2.1 x.2.2) q1 q2 hc, by omega⟩
            · simp only [Option.some.injEq, Prod.mk.injEq] at h
              obtain ⟨rfl, rfl, rfl, rfl⟩ := h
              have x : ∀ p ∈ _, p := hq
              simp only [List.forall_mem_cons, List.not_mem_nil, false_implies, implies_true, and_true] at x
              exact ⟨out_used (out_second hb pt h1 h2 p1 p2 c d x.1 x.2.1 x.2.2) q1 q2 hc, by omega⟩
          · cases h
        · cases h
      · cases h
    · cases h
  · cases h
def kUO (N : Nat) : Inl := orInl (kOut N) kU
theorem kUO_ok (N : Nat) : InlOk Try.prog (kUO N) := orInl_ok (kOut_ok N) kU_ok
end Go.Proofs.Ytecmagdefllihaa
