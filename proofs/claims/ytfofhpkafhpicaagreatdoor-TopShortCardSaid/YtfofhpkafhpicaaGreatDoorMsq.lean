/- Several texts in one: Shq, ShQa, ShQb, ShQc, Shl. -/
import Derived.Test.YtfofhpkafhpicaaGreatDoorMsh
import Derived.Test.YtfofhpkafhpicaaGreatDoorRp

/- The objects that the rounds of the law TopShort meet. -/
namespace Go.Proofs.YtfofhpkafhpicaaGreatDoor
open Go.RowKit
set_option linter.unusedVariables false
def hq0 : List (Nat × HL) := [(127, { op := [(1, 9, .br true)], gd := [(1, 7, true), (1, 8, true)], br := [(14, true)] }), (252, { br := [(16, false)], ob := [(4, 5)] }), (249, { ob := [(1, 2)] }), (117, { op := [(1, 9, .br true)], gd := [(1, 7, true), (1, 8, true)], br := [(14, true)] }), (242, { ob := [(1, 2)] }), (110, { br := [(35, false)] }), (45, { op := [(2, 6, .keep)], ob := [(1, 2), (2, 6)] }), (44, { op := [(1, 9, .keep)], ob := [(0, 1), (1, 9)] }), (42, { ob := [(9, 6)] }), (41, { ob := [(1, 2), (2, 2), (3, 2)] }), (38, { op := [(9, 6, .keep)], br := [(23, false), (50, true)], ob := [(1, 2), (9, 6)] }), (37, { ob := [(0, 4), (2, 4)] }), (224, { op := [(1, 9, .br true)], gd := [(1, 7, true), (1, 8, true)], br := [(14, true)] }), (282, { br := [(16, false)], ob := [(4, 5)] }), (343, { br := [(16, false)], ob := [(4, 5)] }), (22, { ob := [(1, 4)] }), (15, { op := [(3, 10, .keep), (5, 11, .keep), (9, 10, .keep)], ob := [(3, 10), (4, 1), (5, 10), (5, 11), (6, 1), (9, 9), (9, 10), (15, 1), (19, 10), (25, 1)] }), (140, { ob := [(2, 3)] }), (139, { ob := [(1, 2)] }), (138, { op := [(1, 9, .br true)], gd := [(1, 7, true), (1, 8, true)], br := [(14, true)] }), (137, { ob := [(2, 6)] }), (8, { ob := [(9, 6), (18, 4)] }), (134, { ob := [(1, 2)] }), (5, { br := [(45, true)], ob := [(12, 2)] }), (129, { ob := [(2, 6)] }), (128, { br := [(23, false)] })]
def hq1 : List (Nat × HL) := [(5, { br := [(45, false)] })]
def hq2 : List (Nat × HL) := [(15, { op := [(3, 10, .keep), (5, 11, .keep), (9, 10, .keep)], ob := [(3, 10), (4, 1), (5, 11), (6, 1), (9, 9), (9, 10), (15, 1), (25, 1)] }), (44, { ob := [(0, 1), (1, 9), (4, 4)] }), (251, { op := [(4, 3, .keep)], ob := [(4, 3)] }), (235, { op := [(1, 5, .keep)], ob := [(1, 5), (1, 8)] }), (41, { ob := [(1, 2), (2, 2), (3, 2)] }), (137, { ob := [(5, 3)] }), (8, { op := [(17, 14, .keep)], ob := [(9, 6), (17, 14), (18, 4)] }), (5, { br := [(45, true)], ob := [(12, 2)] }), (115, { ob := [(3, 4)] }), (242, { ob := [(1, 2)] }), (129, { ob := [(2, 6)] })]
def hq3 : List (Nat × HL) := [(15, { op := [(3, 10, .keep), (5, 11, .keep), (9, 10, .keep)], ob := [(3, 10), (4, 1), (5, 11), (6, 1), (9, 10)] }), (335, { ob := [(4, 4)] }), (239, { ob := [(1, 6)] }), (333, { ob := [(1, 2)] }), (41, { ob := [(1, 2), (2, 2)] }), (5, { br := [(45, true)], ob := [(12, 2)] }), (242, { ob := [(1, 2)] }), (240, { ob := [(1, 6)] }), (128, { ob := [(8, 1)] })]
def hq4 : List (Nat × HL) := [(127, { op := [(1, 9, .br true)], gd := [(1, 7, true), (1, 8, true)], br := [(14, true)] }), (252, { br := [(16, false)], ob := [(4, 5)] }), (249, { ob := [(1, 2)] }), (343, { br := [(16, false)], ob := [(4, 5)] }), (22, { ob := [(1, 4)] }), (117, { op := [(1, 9, .br true)], gd := [(1, 7, true), (1, 8, true)], br := [(14, true)] }), (242, { ob := [(1, 2)] }), (15, { op := [(3, 10, .keep), (5, 11, .keep), (9, 10, .keep)], ob := [(3, 10), (4, 1), (5, 10), (5, 11), (6, 1), (9, 9), (9, 10), (15, 1), (19, 10), (25, 1)] }), (110, { br := [(35, false)] }), (45, { op := [(2, 6, .keep)], ob := [(1, 2), (2, 6)] }), (44, { op := [(1, 9, .keep)], ob := [(0, 1), (1, 9)] }), (140, { ob := [(2, 3)] }), (139, { ob := [(1, 2)] }), (42, { ob := [(9, 6)] }), (138, { op := [(1, 9, .br true)], gd := [(1, 7, true), (1, 8, true)], br := [(14, true)] }), (41, { ob := [(1, 2), (2, 2), (3, 2)] }), (137, { ob := [(2, 6)] }), (8, { ob := [(9, 6), (18, 4)] }), (134, { ob := [(1, 2)] }), (38, { op := [(9, 6, .keep)], br := [(23, false), (50, true)], ob := [(1, 2), (9, 6)] }), (37, { ob := [(0, 4), (2, 4)] }), (5, { br := [(45, true)], ob := [(12, 2)] }), (129, { ob := [(2, 6)] }), (224, { op := [(1, 9, .br true)], gd := [(1, 7, true), (1, 8, true)], br := [(14, true)] })]
def hq5 : List (Nat × HL) := [(8, { op := [(17, 14, .keep)], ob := [(17, 14)] }), (5, { br := [(45, true)], ob := [(12, 2)] })]
def pq0 : AObj := { t := 2, sz := 1, exact := false, fz := false, body := Body.rows [[vi64 4], [vi64 8], [vi64 16], [vi64 32], [vi64 64], [vi64 128], [vi64 256], [vi64 512], [vi64 0], [vi64 0]] }
def pq1 : AObj := { t := 345, sz := 3, exact := true, fz := false, body := Body.rows [[AV.ptr 7 0 0, vi64 0, AV.sl 19 0 8 none]] }
def pq2 : AObj := { t := 459, sz := 2, exact := true, fz := false, body := Body.rows [[vi64 64, v0]] }
def pq3 : AObj := { t := 286, sz := 3, exact := true, fz := false, body := Body.rows [[vi64 32, v0, AV.ptr 18 0 0]] }
def pq4 : AObj := { t := 456, sz := 2, exact := true, fz := false, body := Body.rows [[vi64 128, v0]] }
def pq5 : AObj := { t := 340, sz := 5, exact := true, fz := false, body := Body.rows [[AV.ptr 7 0 0, AV.ptr 17 0 0, vi64 120, vi64 7200, vi64 30]] }
def pq6 (x : Int) (port : Int) (o1 : Int) : AObj := { t := 174, sz := 9, exact := false, fz := false, body := Body.rows [[vi64 17, vi64 o1, vi8 192, vi8 168, vi8 1, vi8 x, vi64 port, vi64 1, vi64 121]] }
def pq7 (nw : Int) : AObj := { t := 331, sz := 4, exact := true, fz := false, body := Body.rows [[vi64 40000, vi64 128, vi64 nw, AV.sl 16 0 1 none]] }
def pq8 (nw : Int) : AObj := { t := 271, sz := 38, exact := true, fz := false, body := Body.rows [[vi8 2, vi8 0, vi8 0, vi8 0, vi8 0, vi8 2, vi64 3, vi64 nw, vi32 5, vi8 203, vi8 0, vi8 113, vi8 1, vi8 255, vi8 255, vi8 255, vi8 0, vi8 203, vi8 0, vi8 113, vi8 254, vi8 203, vi8 0, vi8 113, vi8 254, vi64 3001, vi64 1, vi8 203, vi8 0, vi8 113, vi8 1, vi8 203, vi8 0, vi8 113, vi8 254, vi64 1, vi64 4, vi64 1]] }
def pq9 : AObj := { t := 408, sz := 12, exact := false, fz := false, body := Body.rows [[vi8 2, vi8 1, vi8 0, vi8 0, vi8 0, vi8 0, vi8 192, vi8 168, vi8 1, vi8 100, vi64 3601, vb false], [vi8 2, vi8 1, vi8 0, vi8 0, vi8 0, vi8 1, vi8 192, vi8 168, vi8 1, vi8 101, vi64 3601, vb false], [vi8 2, vi8 1, vi8 0, vi8 0, vi8 0, vi8 2, vi8 192, vi8 168, vi8 1, vi8 102, vi64 3601, vb false]] }
def pq10 (nw : Int) : AObj := { t := 405, sz := 6, exact := true, fz := false, body := Body.rows [[vi32 3232235876, vi32 3232235907, v0, AV.sl 24 0 3 none, AV.emap, vi64 (wn nw)]] }
def pq11 : AObj := { t := 259, sz := 41, exact := true, fz := false, body := Body.rows [[vi8 192, vi8 168, vi8 1, vi8 1, vi8 192, vi8 168, vi8 1, vi8 0, vi64 24, vi8 2, vi8 0, vi8 0, vi8 0, vi8 0, vi8 1, vi8 2, vi8 0, vi8 0, vi8 0, vi8 0, vi8 2, vi8 192, vi8 168, vi8 1, vi8 100, vi8 192, vi8 168, vi8 1, vi8 131, vi64 3600, vi8 9, vi8 9, vi8 9, vi8 9, vi64 120, vi64 7200, vi64 30, vi64 40000, v0, v0, AV.ptr 15 0 0]] }
def pq12 : AObj := { t := 296, sz := 14, exact := false, fz := false, body := Body.rows [[vi8 203, vi8 0, vi8 113, vi8 254, vb true, vi8 2, vi8 2, vi8 0, vi8 0, vi8 0, vi8 1, vi64 1, vi64 0, v0]] }
def pq13 (nw : Int) : AObj := { t := 298, sz := 3, exact := true, fz := false, body := Body.rows [[vi64 600, vi64 nw, AV.sl 14 0 1 none]] }
def pq14 (nw : Int) : AObj := { t := 298, sz := 3, exact := true, fz := false, body := Body.rows [[vi64 600, vi64 nw, v0]] }
def pq15 (nw : Int) : AObj := { t := 124, sz := 51, exact := true, fz := false, body := Body.rows [[vi8 192, vi8 168, vi8 1, vi8 1, vi8 192, vi8 168, vi8 1, vi8 0, vi64 24, vi8 2, vi8 0, vi8 0, vi8 0, vi8 0, vi8 1, vi8 2, vi8 0, vi8 0, vi8 0, vi8 0, vi8 2, vi8 192, vi8 168, vi8 1, vi8 100, vi8 192, vi8 168, vi8 1, vi8 131, vi64 3600, vi8 9, vi8 9, vi8 9, vi8 9, vi64 120, vi64 7200, vi64 30, vi64 40000, v0, v0, vi64 (wn nw), vi32 3, AV.ptr 3 0 0, AV.ptr 4 0 0, AV.ptr 5 0 0, AV.ptr 6 0 0, AV.ptr 7 0 0, AV.ptr 8 0 0, AV.ptr 9 0 0, AV.ptr 10 0 0, v0]] }
def pq16 (nw : Int) : AObj := { t := 271, sz := 38, exact := true, fz := false, body := Body.rows [[vi8 2, vi8 0, vi8 0, vi8 0, vi8 0, vi8 2, vi64 3, vi64 (wn nw), vi32 5, vi8 203, vi8 0, vi8 113, vi8 1, vi8 255, vi8 255, vi8 255, vi8 0, vi8 203, vi8 0, vi8 113, vi8 254, vi8 203, vi8 0, vi8 113, vi8 254, vi64 3001, vi64 1, vi8 203, vi8 0, vi8 113, vi8 1, vi8 203, vi8 0, vi8 113, vi8 254, vi64 1, vi64 4, vi64 1]] }
def pq17 (nw : Int) : AObj := { t := 331, sz := 4, exact := true, fz := false, body := Body.rows [[vi64 40000, vi64 128, vi64 (wn nw), AV.sl 16 0 1 none]] }
def pq18 (nw : Int) : AObj := { t := 2, sz := List.length (List.map AV.val [Value.int IntKind.i64 (wn nw)]), exact := true, fz := false, body := Body.rows [[vi64 (wn nw)]] }
def pq19 (nw : Int) : AObj := { t := 298, sz := 3, exact := true, fz := false, body := Body.rows [[vi64 600, vi64 (wn nw), v0]] }
def pq20 : AObj := { t := 115, sz := 1, exact := true, fz := false, body := Body.rows [[AV.ptr 3 0 0]] }
def pq21 (nw : Int) : AObj := { t := 298, sz := 3, exact := true, fz := false, body := Body.rows [[vi64 600, vi64 (wn nw), AV.sl 14 0 1 none]] }
def pq22 : AObj := { t := 115, sz := 1, exact := true, fz := false, body := Body.rows [[AV.ptr 4 0 0]] }
def pq23 (nw : Int) : AObj := { t := 124, sz := 51, exact := true, fz := false, body := Body.rows [[vi8 192, vi8 168, vi8 1, vi8 1, vi8 192, vi8 168, vi8 1, vi8 0, vi64 24, vi8 2, vi8 0, vi8 0, vi8 0, vi8 0, vi8 1, vi8 2, vi8 0, vi8 0, vi8 0, vi8 0, vi8 2, vi8 192, vi8 168, vi8 1, vi8 100, vi8 192, vi8 168, vi8 1, vi8 131, vi64 3600, vi8 9, vi8 9, vi8 9, vi8 9, vi64 120, vi64 7200, vi64 30, vi64 40000, v0, v0, vi64 (nw + 1), vi32 3, AV.ptr 3 0 0, AV.ptr 4 0 0, AV.ptr 5 0 0, AV.ptr 6 0 0, AV.ptr 7 0 0, AV.ptr 8 0 0, AV.ptr 9 0 0, AV.ptr 10 0 0, v0]] }
def pq24 (nw : Int) : AObj := { t := 298, sz := 3, exact := true, fz := false, body := Body.rows [[vi64 600, vi64 (nw + 1), v0]] }
def pq25 (nw : Int) : AObj := { t := 298, sz := 3, exact := true, fz := false, body := Body.rows [[vi64 600, vi64 (nw + 1), AV.sl 14 0 1 none]] }
def pq26 (nw : Int) : AObj := { t := 271, sz := 38, exact := true, fz := false, body := Body.rows [[vi8 2, vi8 0, vi8 0, vi8 0, vi8 0, vi8 2, vi64 3, vi64 (nw + 1), vi32 5, vi8 203, vi8 0, vi8 113, vi8 1, vi8 255, vi8 255, vi8 255, vi8 0, vi8 203, vi8 0, vi8 113, vi8 254, vi8 203, vi8 0, vi8 113, vi8 254, vi64 3001, vi64 1, vi8 203, vi8 0, vi8 113, vi8 1, vi8 203, vi8 0, vi8 113, vi8 254, vi64 1, vi64 4, vi64 1]] }
def pq27 (nw : Int) : AObj := { t := 331, sz := 4, exact := true, fz := false, body := Body.rows [[vi64 40000, vi64 128, vi64 (nw + 1), AV.sl 16 0 1 none]] }
def pq28 (o1 : Int) : AObj := { t := 5, sz := 1, exact := false, fz := false, body := Body.bytes (udpP 203 0 113 1 8 8 4 1 o1 80 dta) }
def pq29 (nw : Int) : AObj := { t := 405, sz := 6, exact := true, fz := false, body := Body.rows [[vi32 3232235876, vi32 3232235907, v0, AV.sl 24 0 3 none, AV.emap, vi64 (nw + 1)]] }
def pq30 : AObj := { t := 2, sz := 1, exact := false, fz := false, body := Body.rows [[vi64 8], [vi64 16], [vi64 32], [vi64 64], [vi64 128], [vi64 256], [vi64 512], [vi64 0], [vi64 0], [vi64 0]] }
def pq31 : AObj := { t := 345, sz := 3, exact := true, fz := false, body := Body.rows [[AV.ptr 7 0 0, vi64 0, AV.sl 19 0 7 none]] }
def pq32 : AObj := { t := 2, sz := 1, exact := false, fz := false, body := Body.rows [[vi64 16], [vi64 32], [vi64 64], [vi64 128], [vi64 256], [vi64 512], [vi64 0], [vi64 0], [vi64 0], [vi64 0]] }
def pq33 : AObj := { t := 345, sz := 3, exact := true, fz := false, body := Body.rows [[AV.ptr 7 0 0, vi64 0, AV.sl 19 0 6 none]] }
def pq34 : AObj := { t := 2, sz := 1, exact := false, fz := false, body := Body.rows [[vi64 32], [vi64 64], [vi64 128], [vi64 256], [vi64 512], [vi64 0], [vi64 0], [vi64 0], [vi64 0], [vi64 0]] }
def pq35 : AObj := { t := 345, sz := 3, exact := true, fz := false, body := Body.rows [[AV.ptr 7 0 0, vi64 0, AV.sl 19 0 5 none]] }
def pq36 : AObj := { t := 2, sz := 1, exact := false, fz := false, body := Body.rows [[vi64 64], [vi64 128], [vi64 256], [vi64 512], [vi64 0], [vi64 0], [vi64 0], [vi64 0], [vi64 0], [vi64 0]] }
def pq37 : AObj := { t := 345, sz := 3, exact := true, fz := false, body := Body.rows [[AV.ptr 7 0 0, vi64 0, AV.sl 19 0 4 none]] }
def pq38 : AObj := { t := 2, sz := 1, exact := false, fz := false, body := Body.rows [[vi64 128], [vi64 256], [vi64 512], [vi64 0], [vi64 0], [vi64 0], [vi64 0], [vi64 0], [vi64 0], [vi64 0]] }
def pq39 : AObj := { t := 345, sz := 3, exact := true, fz := false, body := Body.rows [[AV.ptr 7 0 0, vi64 0, AV.sl 19 0 3 none]] }
def pq40 (nw : Int) (dr : Int) : AObj := { t := 124, sz := 51, exact := true, fz := false, body := Body.rows [[vi8 192, vi8 168, vi8 1, vi8 1, vi8 192, vi8 168, vi8 1, vi8 0, vi64 24, vi8 2, vi8 0, vi8 0, vi8 0, vi8 0, vi8 1, vi8 2, vi8 0, vi8 0, vi8 0, vi8 0, vi8 2, vi8 192, vi8 168, vi8 1, vi8 100, vi8 192, vi8 168, vi8 1, vi8 131, vi64 3600, vi8 9, vi8 9, vi8 9, vi8 9, vi64 120, vi64 7200, vi64 30, vi64 40000, v0, v0, vi64 nw, vi32 dr, AV.ptr 3 0 0, AV.ptr 4 0 0, AV.ptr 5 0 0, AV.ptr 6 0 0, AV.ptr 7 0 0, AV.ptr 8 0 0, AV.ptr 9 0 0, AV.ptr 10 0 0, v0]] }
def pq41 (m : Nat) : AObj := { t := 345, sz := 3, exact := true, fz := false, body := Body.rows [[AV.ptr 7 0 0, vi64 0, AV.sl 19 0 m none]] }
def pq42 (nw : Int) : AObj := { t := 405, sz := 6, exact := true, fz := false, body := Body.rows [[vi32 3232235876, vi32 3232235907, v0, AV.sl 24 0 3 none, AV.emap, vi64 nw]] }
def pq43 (e0 : Int) (e1 : Int) (e2 : Int) (e3 : Int) (e4 : Int) (e5 : Int) (e6 : Int) (e7 : Int) (e8 : Int) (e9 : Int) : AObj := { t := 2, sz := 1, exact := false, fz := false, body := Body.rows [[vi64 e0], [vi64 e1], [vi64 e2], [vi64 e3], [vi64 e4], [vi64 e5], [vi64 e6], [vi64 e7], [vi64 e8], [vi64 e9]] }
def pq44 (nw : Int) : AObj := { t := 331, sz := 4, exact := true, fz := false, body := Body.rows [[vi64 40000, vi64 128, vi64 nw, AV.sl 16 0 0 none]] }
def pq45 : AObj := { t := 174, sz := 9, exact := false, fz := false, body := Body.rows [[vi64 0, vi64 0, vi8 0, vi8 0, vi8 0, vi8 0, vi64 0, vi64 0, vi64 0]] }
def pq46 : AObj := { t := 2, sz := 1, exact := false, fz := false, body := Body.rows [[vi64 1], [vi64 2], [vi64 4], [vi64 8], [vi64 16], [vi64 32], [vi64 64], [vi64 128], [vi64 256], [vi64 512]] }
def pq47 : AObj := { t := 345, sz := 3, exact := true, fz := false, body := Body.rows [[AV.ptr 7 0 0, vi64 0, AV.sl 19 0 10 none]] }
def pq48 : AObj := { t := 331, sz := 4, exact := true, fz := false, body := Body.rows [[vi64 40000, vi64 128, vi64 1, AV.sl 16 0 1 none]] }
def pq49 : AObj := { t := 271, sz := 38, exact := true, fz := false, body := Body.rows [[vi8 2, vi8 0, vi8 0, vi8 0, vi8 0, vi8 2, vi64 3, vi64 1, vi32 5, vi8 203, vi8 0, vi8 113, vi8 1, vi8 255, vi8 255, vi8 255, vi8 0, vi8 203, vi8 0, vi8 113, vi8 254, vi8 203, vi8 0, vi8 113, vi8 254, vi64 3001, vi64 1, vi8 203, vi8 0, vi8 113, vi8 1, vi8 203, vi8 0, vi8 113, vi8 254, vi64 1, vi64 4, vi64 1]] }
def pq50 : AObj := { t := 405, sz := 6, exact := true, fz := false, body := Body.rows [[vi32 3232235876, vi32 3232235907, v0, AV.sl 24 0 3 none, AV.emap, vi64 2]] }
def pq51 : AObj := { t := 298, sz := 3, exact := true, fz := false, body := Body.rows [[vi64 600, vi64 1, AV.sl 14 0 1 none]] }
def pq52 : AObj := { t := 298, sz := 3, exact := true, fz := false, body := Body.rows [[vi64 600, vi64 1, v0]] }
def pq53 : AObj := { t := 124, sz := 51, exact := true, fz := false, body := Body.rows [[vi8 192, vi8 168, vi8 1, vi8 1, vi8 192, vi8 168, vi8 1, vi8 0, vi64 24, vi8 2, vi8 0, vi8 0, vi8 0, vi8 0, vi8 1, vi8 2, vi8 0, vi8 0, vi8 0, vi8 0, vi8 2, vi8 192, vi8 168, vi8 1, vi8 100, vi8 192, vi8 168, vi8 1, vi8 131, vi64 3600, vi8 9, vi8 9, vi8 9, vi8 9, vi64 120, vi64 7200, vi64 30, vi64 40000, v0, v0, vi64 2, vi32 3, AV.ptr 3 0 0, AV.ptr 4 0 0, AV.ptr 5 0 0, AV.ptr 6 0 0, AV.ptr 7 0 0, AV.ptr 8 0 0, AV.ptr 9 0 0, AV.ptr 10 0 0, v0]] }
def pq54 : AObj := { t := 271, sz := 38, exact := true, fz := false, body := Body.rows [[vi8 2, vi8 0, vi8 0, vi8 0, vi8 0, vi8 2, vi64 3, vi64 2, vi32 5, vi8 203, vi8 0, vi8 113, vi8 1, vi8 255, vi8 255, vi8 255, vi8 0, vi8 203, vi8 0, vi8 113, vi8 254, vi8 203, vi8 0, vi8 113, vi8 254, vi64 3001, vi64 1, vi8 203, vi8 0, vi8 113, vi8 1, vi8 203, vi8 0, vi8 113, vi8 254, vi64 1, vi64 4, vi64 1]] }
def pq55 : AObj := { t := 331, sz := 4, exact := true, fz := false, body := Body.rows [[vi64 40000, vi64 128, vi64 2, AV.sl 16 0 1 none]] }
def pq56 : AObj := { t := 5, sz := 1, exact := false, fz := false, body := Body.bytes [1, 0, 94, 0, 0, 1, 2, 0, 0, 0, 0, 1, 8, 0, 69, 0, 0, 40, 0, 0, 0, 0, 64, 17, 217, 26, 192, 168, 1, 1, 224, 0, 0, 1, 20, 231, 20, 230, 0, 20, 247, 201, 0, 128, 0, 0, 0, 0, 0, 2, 203, 0, 113, (1 : UInt8)] }
def pq57 : AObj := { t := 5, sz := 1, exact := false, fz := false, body := Body.bytes [1, 3, (6 : UInt8)] }
def pq58 : AObj := { t := 5, sz := 1, exact := false, fz := false, body := Body.bytes [203, 0, 113, (254 : UInt8)] }
def pq59 : AObj := { t := 5, sz := 1, exact := false, fz := false, body := Body.bytes [203, 0, 113, (1 : UInt8)] }
def pq60 : AObj := { t := 5, sz := 1, exact := false, fz := false, body := Body.bytes [(3 : UInt8)] }
def pq61 : AObj := { t := 184, sz := 2, exact := false, fz := false, body := Body.rows [[vi64 53, AV.sl 20 0 1 none], [vi64 50, AV.sl 21 0 4 none], [vi64 54, AV.sl 22 0 4 none], [vi64 55, AV.sl 23 0 3 none]] }
def pq62 : AObj := { t := 5, sz := 1, exact := false, fz := false, body := Body.bytes [] }
def pq63 : AObj := { t := 60, sz := 146, exact := true, fz := false, body := Body.rows [[vi8 192, vi8 168, vi8 1, vi8 1, vi8 192, vi8 168, vi8 1, vi8 0, vi64 24, vi8 2, vi8 0, vi8 0, vi8 0, vi8 0, vi8 1, vi8 2, vi8 0, vi8 0, vi8 0, vi8 0, vi8 2, vi8 192, vi8 168, vi8 1, vi8 100, vi8 192, vi8 168, vi8 1, vi8 131, vi64 3600, vi8 9, vi8 9, vi8 9, vi8 9, vi64 120, vi64 7200, vi64 30, vi64 40000, v0, v0, vi8 192, vi8 168, vi8 1, vi8 100, vi8 192, vi8 168, vi8 1, vi8 101, vi8 192, vi8 168, vi8 1, vi8 102, vi8 0, vi8 0, vi8 0, vi8 0, vi8 0, vi8 0, vi8 0, vi8 0, vi8 0, vi8 0, vi8 0, vi8 0, vi8 0, vi8 0, vi8 0, vi8 0, vi8 0, vi8 0, vi8 0, vi8 0, vi8 203, vi8 0, vi8 113, vi8 1, vb true, vi64 0, vi64 0, vi64 0, vi64 0, vi64 63, vi64 17, vi8 203, vi8 0, vi8 113, vi8 1, vi8 8, vi8 8, vi8 4, vi8 1, AV.sl 11 0 0 none, AV.sl 12 0 12 none, vb true, vi64 0, vi64 0, vi64 0, vi64 0, vi64 0, vi64 0, vi8 0, vi8 0, vi8 0, vi8 0, vi8 0, vi8 0, vi8 0, vi8 0, v0, v0, vi64 0, vi64 0, v0, v0, v0, v0, v0, vi64 1, vi64 0, vi32 5, vi64 0, vi64 32768, vi8 0, vi8 0, vi8 0, vi8 0, vi8 0, vi8 0, vi8 0, vi8 0, vi8 0, vi8 0, vi8 0, vi8 0, vi8 0, vi8 0, vi8 0, vi8 0, vi8 2, vi8 0, vi8 0, vi8 0, vi8 0, vi8 2, AV.sl 13 0 4 none, vb false]] }
def pq64 : AObj := { t := 298, sz := 3, exact := true, fz := false, body := Body.rows [[vi64 600, vi64 2, v0]] }
def pq65 : AObj := { t := 298, sz := 3, exact := true, fz := false, body := Body.rows [[vi64 600, vi64 2, AV.sl 14 0 1 none]] }
def pq66 : AObj := { t := 331, sz := 4, exact := true, fz := false, body := Body.rows [[vi64 40000, vi64 128, vi64 3, AV.sl 16 0 1 none]] }
def pq67 : AObj := { t := 271, sz := 38, exact := true, fz := false, body := Body.rows [[vi8 2, vi8 0, vi8 0, vi8 0, vi8 0, vi8 2, vi64 3, vi64 3, vi32 5, vi8 203, vi8 0, vi8 113, vi8 1, vi8 255, vi8 255, vi8 255, vi8 0, vi8 203, vi8 0, vi8 113, vi8 254, vi8 203, vi8 0, vi8 113, vi8 254, vi64 3001, vi64 1, vi8 203, vi8 0, vi8 113, vi8 1, vi8 203, vi8 0, vi8 113, vi8 254, vi64 1, vi64 4, vi64 1]] }
def pq68 : AObj := { t := 405, sz := 6, exact := true, fz := false, body := Body.rows [[vi32 3232235876, vi32 3232235907, v0, AV.sl 24 0 3 none, AV.emap, vi64 4]] }
def pq69 : AObj := { t := 298, sz := 3, exact := true, fz := false, body := Body.rows [[vi64 600, vi64 3, AV.sl 14 0 1 none]] }
def pq70 : AObj := { t := 298, sz := 3, exact := true, fz := false, body := Body.rows [[vi64 600, vi64 3, v0]] }
def pq71 : AObj := { t := 124, sz := 51, exact := true, fz := false, body := Body.rows [[vi8 192, vi8 168, vi8 1, vi8 1, vi8 192, vi8 168, vi8 1, vi8 0, vi64 24, vi8 2, vi8 0, vi8 0, vi8 0, vi8 0, vi8 1, vi8 2, vi8 0, vi8 0, vi8 0, vi8 0, vi8 2, vi8 192, vi8 168, vi8 1, vi8 100, vi8 192, vi8 168, vi8 1, vi8 131, vi64 3600, vi8 9, vi8 9, vi8 9, vi8 9, vi64 120, vi64 7200, vi64 30, vi64 40000, v0, v0, vi64 4, vi32 3, AV.ptr 3 0 0, AV.ptr 4 0 0, AV.ptr 5 0 0, AV.ptr 6 0 0, AV.ptr 7 0 0, AV.ptr 8 0 0, AV.ptr 9 0 0, AV.ptr 10 0 0, v0]] }
def pq72 : AObj := { t := 271, sz := 38, exact := true, fz := false, body := Body.rows [[vi8 2, vi8 0, vi8 0, vi8 0, vi8 0, vi8 2, vi64 3, vi64 4, vi32 5, vi8 203, vi8 0, vi8 113, vi8 1, vi8 255, vi8 255, vi8 255, vi8 0, vi8 203, vi8 0, vi8 113, vi8 254, vi8 203, vi8 0, vi8 113, vi8 254, vi64 3001, vi64 1, vi8 203, vi8 0, vi8 113, vi8 1, vi8 203, vi8 0, vi8 113, vi8 254, vi64 1, vi64 4, vi64 1]] }
def pq73 : AObj := { t := 331, sz := 4, exact := true, fz := false, body := Body.rows [[vi64 40000, vi64 128, vi64 4, AV.sl 16 0 1 none]] }
def pq74 : AObj := { t := 5, sz := 1, exact := false, fz := false, body := Body.bytes [1, 0, 94, 0, 0, 1, 2, 0, 0, 0, 0, 1, 8, 0, 69, 0, 0, 40, 0, 0, 0, 0, 64, 17, 217, 26, 192, 168, 1, 1, 224, 0, 0, 1, 20, 231, 20, 230, 0, 20, 247, 199, 0, 128, 0, 0, 0, 0, 0, 4, 203, 0, 113, (1 : UInt8)] }
def pq75 : AObj := { t := 298, sz := 3, exact := true, fz := false, body := Body.rows [[vi64 600, vi64 4, v0]] }
def pq76 : AObj := { t := 298, sz := 3, exact := true, fz := false, body := Body.rows [[vi64 600, vi64 4, AV.sl 14 0 1 none]] }
def pq77 : AObj := { t := 331, sz := 4, exact := true, fz := false, body := Body.rows [[vi64 40000, vi64 128, vi64 7, AV.sl 16 0 1 none]] }
def pq78 : AObj := { t := 271, sz := 38, exact := true, fz := false, body := Body.rows [[vi8 2, vi8 0, vi8 0, vi8 0, vi8 0, vi8 2, vi64 3, vi64 7, vi32 5, vi8 203, vi8 0, vi8 113, vi8 1, vi8 255, vi8 255, vi8 255, vi8 0, vi8 203, vi8 0, vi8 113, vi8 254, vi8 203, vi8 0, vi8 113, vi8 254, vi64 3001, vi64 1, vi8 203, vi8 0, vi8 113, vi8 1, vi8 203, vi8 0, vi8 113, vi8 254, vi64 1, vi64 4, vi64 1]] }
def pq79 : AObj := { t := 405, sz := 6, exact := true, fz := false, body := Body.rows [[vi32 3232235876, vi32 3232235907, v0, AV.sl 24 0 3 none, AV.emap, vi64 8]] }
def pq80 : AObj := { t := 298, sz := 3, exact := true, fz := false, body := Body.rows [[vi64 600, vi64 7, AV.sl 14 0 1 none]] }
def pq81 : AObj := { t := 298, sz := 3, exact := true, fz := false, body := Body.rows [[vi64 600, vi64 7, v0]] }
def pq82 : AObj := { t := 124, sz := 51, exact := true, fz := false, body := Body.rows [[vi8 192, vi8 168, vi8 1, vi8 1, vi8 192, vi8 168, vi8 1, vi8 0, vi64 24, vi8 2, vi8 0, vi8 0, vi8 0, vi8 0, vi8 1, vi8 2, vi8 0, vi8 0, vi8 0, vi8 0, vi8 2, vi8 192, vi8 168, vi8 1, vi8 100, vi8 192, vi8 168, vi8 1, vi8 131, vi64 3600, vi8 9, vi8 9, vi8 9, vi8 9, vi64 120, vi64 7200, vi64 30, vi64 40000, v0, v0, vi64 8, vi32 3, AV.ptr 3 0 0, AV.ptr 4 0 0, AV.ptr 5 0 0, AV.ptr 6 0 0, AV.ptr 7 0 0, AV.ptr 8 0 0, AV.ptr 9 0 0, AV.ptr 10 0 0, v0]] }
def pq83 : AObj := { t := 271, sz := 38, exact := true, fz := false, body := Body.rows [[vi8 2, vi8 0, vi8 0, vi8 0, vi8 0, vi8 2, vi64 3, vi64 8, vi32 5, vi8 203, vi8 0, vi8 113, vi8 1, vi8 255, vi8 255, vi8 255, vi8 0, vi8 203, vi8 0, vi8 113, vi8 254, vi8 203, vi8 0, vi8 113, vi8 254, vi64 3001, vi64 1, vi8 203, vi8 0, vi8 113, vi8 1, vi8 203, vi8 0, vi8 113, vi8 254, vi64 1, vi64 4, vi64 1]] }
def pq84 : AObj := { t := 331, sz := 4, exact := true, fz := false, body := Body.rows [[vi64 40000, vi64 128, vi64 8, AV.sl 16 0 1 none]] }
def pq85 : AObj := { t := 5, sz := 1, exact := false, fz := false, body := Body.bytes [1, 0, 94, 0, 0, 1, 2, 0, 0, 0, 0, 1, 8, 0, 69, 0, 0, 40, 0, 0, 0, 0, 64, 17, 217, 26, 192, 168, 1, 1, 224, 0, 0, 1, 20, 231, 20, 230, 0, 20, 247, 195, 0, 128, 0, 0, 0, 0, 0, 8, 203, 0, 113, (1 : UInt8)] }
def pq86 : AObj := { t := 298, sz := 3, exact := true, fz := false, body := Body.rows [[vi64 600, vi64 8, v0]] }
def pq87 : AObj := { t := 298, sz := 3, exact := true, fz := false, body := Body.rows [[vi64 600, vi64 8, AV.sl 14 0 1 none]] }
def pq88 : AObj := { t := 331, sz := 4, exact := true, fz := false, body := Body.rows [[vi64 40000, vi64 128, vi64 15, AV.sl 16 0 1 none]] }
def pq89 : AObj := { t := 271, sz := 38, exact := true, fz := false, body := Body.rows [[vi8 2, vi8 0, vi8 0, vi8 0, vi8 0, vi8 2, vi64 3, vi64 15, vi32 5, vi8 203, vi8 0, vi8 113, vi8 1, vi8 255, vi8 255, vi8 255, vi8 0, vi8 203, vi8 0, vi8 113, vi8 254, vi8 203, vi8 0, vi8 113, vi8 254, vi64 3001, vi64 1, vi8 203, vi8 0, vi8 113, vi8 1, vi8 203, vi8 0, vi8 113, vi8 254, vi64 1, vi64 4, vi64 1]] }
def pq90 : AObj := { t := 405, sz := 6, exact := true, fz := false, body := Body.rows [[vi32 3232235876, vi32 3232235907, v0, AV.sl 24 0 3 none, AV.emap, vi64 16]] }
def pq91 : AObj := { t := 298, sz := 3, exact := true, fz := false, body := Body.rows [[vi64 600, vi64 15, AV.sl 14 0 1 none]] }
def pq92 : AObj := { t := 298, sz := 3, exact := true, fz := false, body := Body.rows [[vi64 600, vi64 15, v0]] }
def pq93 : AObj := { t := 124, sz := 51, exact := true, fz := false, body := Body.rows [[vi8 192, vi8 168, vi8 1, vi8 1, vi8 192, vi8 168, vi8 1, vi8 0, vi64 24, vi8 2, vi8 0, vi8 0, vi8 0, vi8 0, vi8 1, vi8 2, vi8 0, vi8 0, vi8 0, vi8 0, vi8 2, vi8 192, vi8 168, vi8 1, vi8 100, vi8 192, vi8 168, vi8 1, vi8 131, vi64 3600, vi8 9, vi8 9, vi8 9, vi8 9, vi64 120, vi64 7200, vi64 30, vi64 40000, v0, v0, vi64 16, vi32 3, AV.ptr 3 0 0, AV.ptr 4 0 0, AV.ptr 5 0 0, AV.ptr 6 0 0, AV.ptr 7 0 0, AV.ptr 8 0 0, AV.ptr 9 0 0, AV.ptr 10 0 0, v0]] }
def pq94 : AObj := { t := 271, sz := 38, exact := true, fz := false, body := Body.rows [[vi8 2, vi8 0, vi8 0, vi8 0, vi8 0, vi8 2, vi64 3, vi64 16, vi32 5, vi8 203, vi8 0, vi8 113, vi8 1, vi8 255, vi8 255, vi8 255, vi8 0, vi8 203, vi8 0, vi8 113, vi8 254, vi8 203, vi8 0, vi8 113, vi8 254, vi64 3001, vi64 1, vi8 203, vi8 0, vi8 113, vi8 1, vi8 203, vi8 0, vi8 113, vi8 254, vi64 1, vi64 4, vi64 1]] }
def pq95 : AObj := { t := 331, sz := 4, exact := true, fz := false, body := Body.rows [[vi64 40000, vi64 128, vi64 16, AV.sl 16 0 1 none]] }
def pq96 : AObj := { t := 5, sz := 1, exact := false, fz := false, body := Body.bytes [1, 0, 94, 0, 0, 1, 2, 0, 0, 0, 0, 1, 8, 0, 69, 0, 0, 40, 0, 0, 0, 0, 64, 17, 217, 26, 192, 168, 1, 1, 224, 0, 0, 1, 20, 231, 20, 230, 0, 20, 247, 187, 0, 128, 0, 0, 0, 0, 0, 16, 203, 0, 113, (1 : UInt8)] }
def pq97 : AObj := { t := 298, sz := 3, exact := true, fz := false, body := Body.rows [[vi64 600, vi64 16, v0]] }
def pq98 : AObj := { t := 298, sz := 3, exact := true, fz := false, body := Body.rows [[vi64 600, vi64 16, AV.sl 14 0 1 none]] }
def pq99 : AObj := { t := 331, sz := 4, exact := true, fz := false, body := Body.rows [[vi64 40000, vi64 128, vi64 31, AV.sl 16 0 1 none]] }
def pq100 : AObj := { t := 271, sz := 38, exact := true, fz := false, body := Body.rows [[vi8 2, vi8 0, vi8 0, vi8 0, vi8 0, vi8 2, vi64 3, vi64 31, vi32 5, vi8 203, vi8 0, vi8 113, vi8 1, vi8 255, vi8 255, vi8 255, vi8 0, vi8 203, vi8 0, vi8 113, vi8 254, vi8 203, vi8 0, vi8 113, vi8 254, vi64 3001, vi64 1, vi8 203, vi8 0, vi8 113, vi8 1, vi8 203, vi8 0, vi8 113, vi8 254, vi64 1, vi64 4, vi64 1]] }
def pq101 : AObj := { t := 405, sz := 6, exact := true, fz := false, body := Body.rows [[vi32 3232235876, vi32 3232235907, v0, AV.sl 24 0 3 none, AV.emap, vi64 32]] }
def pq102 : AObj := { t := 298, sz := 3, exact := true, fz := false, body := Body.rows [[vi64 600, vi64 31, AV.sl 14 0 1 none]] }
def pq103 : AObj := { t := 298, sz := 3, exact := true, fz := false, body := Body.rows [[vi64 600, vi64 31, v0]] }
def pq104 : AObj := { t := 124, sz := 51, exact := true, fz := false, body := Body.rows [[vi8 192, vi8 168, vi8 1, vi8 1, vi8 192, vi8 168, vi8 1, vi8 0, vi64 24, vi8 2, vi8 0, vi8 0, vi8 0, vi8 0, vi8 1, vi8 2, vi8 0, vi8 0, vi8 0, vi8 0, vi8 2, vi8 192, vi8 168, vi8 1, vi8 100, vi8 192, vi8 168, vi8 1, vi8 131, vi64 3600, vi8 9, vi8 9, vi8 9, vi8 9, vi64 120, vi64 7200, vi64 30, vi64 40000, v0, v0, vi64 32, vi32 3, AV.ptr 3 0 0, AV.ptr 4 0 0, AV.ptr 5 0 0, AV.ptr 6 0 0, AV.ptr 7 0 0, AV.ptr 8 0 0, AV.ptr 9 0 0, AV.ptr 10 0 0, v0]] }
def pq105 : AObj := { t := 271, sz := 38, exact := true, fz := false, body := Body.rows [[vi8 2, vi8 0, vi8 0, vi8 0, vi8 0, vi8 2, vi64 3, vi64 32, vi32 5, vi8 203, vi8 0, vi8 113, vi8 1, vi8 255, vi8 255, vi8 255, vi8 0, vi8 203, vi8 0, vi8 113, vi8 254, vi8 203, vi8 0, vi8 113, vi8 254, vi64 3001, vi64 1, vi8 203, vi8 0, vi8 113, vi8 1, vi8 203, vi8 0, vi8 113, vi8 254, vi64 1, vi64 4, vi64 1]] }
def pq106 : AObj := { t := 331, sz := 4, exact := true, fz := false, body := Body.rows [[vi64 40000, vi64 128, vi64 32, AV.sl 16 0 1 none]] }
def pq107 : AObj := { t := 5, sz := 1, exact := false, fz := false, body := Body.bytes [1, 0, 94, 0, 0, 1, 2, 0, 0, 0, 0, 1, 8, 0, 69, 0, 0, 40, 0, 0, 0, 0, 64, 17, 217, 26, 192, 168, 1, 1, 224, 0, 0, 1, 20, 231, 20, 230, 0, 20, 247, 171, 0, 128, 0, 0, 0, 0, 0, 32, 203, 0, 113, (1 : UInt8)] }
def pq108 : AObj := { t := 298, sz := 3, exact := true, fz := false, body := Body.rows [[vi64 600, vi64 32, v0]] }
def pq109 : AObj := { t := 298, sz := 3, exact := true, fz := false, body := Body.rows [[vi64 600, vi64 32, AV.sl 14 0 1 none]] }
def pq110 : AObj := { t := 331, sz := 4, exact := true, fz := false, body := Body.rows [[vi64 40000, vi64 128, vi64 63, AV.sl 16 0 1 none]] }
def pq111 : AObj := { t := 271, sz := 38, exact := true, fz := false, body := Body.rows [[vi8 2, vi8 0, vi8 0, vi8 0, vi8 0, vi8 2, vi64 3, vi64 63, vi32 5, vi8 203, vi8 0, vi8 113, vi8 1, vi8 255, vi8 255, vi8 255, vi8 0, vi8 203, vi8 0, vi8 113, vi8 254, vi8 203, vi8 0, vi8 113, vi8 254, vi64 3001, vi64 1, vi8 203, vi8 0, vi8 113, vi8 1, vi8 203, vi8 0, vi8 113, vi8 254, vi64 1, vi64 4, vi64 1]] }
def pq112 : AObj := { t := 405, sz := 6, exact := true, fz := false, body := Body.rows [[vi32 3232235876, vi32 3232235907, v0, AV.sl 24 0 3 none, AV.emap, vi64 64]] }
def pq113 : AObj := { t := 298, sz := 3, exact := true, fz := false, body := Body.rows [[vi64 600, vi64 63, AV.sl 14 0 1 none]] }
def pq114 : AObj := { t := 298, sz := 3, exact := true, fz := false, body := Body.rows [[vi64 600, vi64 63, v0]] }
def pq115 : AObj := { t := 124, sz := 51, exact := true, fz := false, body := Body.rows [[vi8 192, vi8 168, vi8 1, vi8 1, vi8 192, vi8 168, vi8 1, vi8 0, vi64 24, vi8 2, vi8 0, vi8 0, vi8 0, vi8 0, vi8 1, vi8 2, vi8 0, vi8 0, vi8 0, vi8 0, vi8 2, vi8 192, vi8 168, vi8 1, vi8 100, vi8 192, vi8 168, vi8 1, vi8 131, vi64 3600, vi8 9, vi8 9, vi8 9, vi8 9, vi64 120, vi64 7200, vi64 30, vi64 40000, v0, v0, vi64 64, vi32 3, AV.ptr 3 0 0, AV.ptr 4 0 0, AV.ptr 5 0 0, AV.ptr 6 0 0, AV.ptr 7 0 0, AV.ptr 8 0 0, AV.ptr 9 0 0, AV.ptr 10 0 0, v0]] }
def pq116 : AObj := { t := 271, sz := 38, exact := true, fz := false, body := Body.rows [[vi8 2, vi8 0, vi8 0, vi8 0, vi8 0, vi8 2, vi64 3, vi64 64, vi32 5, vi8 203, vi8 0, vi8 113, vi8 1, vi8 255, vi8 255, vi8 255, vi8 0, vi8 203, vi8 0, vi8 113, vi8 254, vi8 203, vi8 0, vi8 113, vi8 254, vi64 3001, vi64 1, vi8 203, vi8 0, vi8 113, vi8 1, vi8 203, vi8 0, vi8 113, vi8 254, vi64 1, vi64 4, vi64 1]] }
def pq117 : AObj := { t := 331, sz := 4, exact := true, fz := false, body := Body.rows [[vi64 40000, vi64 128, vi64 64, AV.sl 16 0 1 none]] }
def pq118 : AObj := { t := 5, sz := 1, exact := false, fz := false, body := Body.bytes [1, 0, 94, 0, 0, 1, 2, 0, 0, 0, 0, 1, 8, 0, 69, 0, 0, 40, 0, 0, 0, 0, 64, 17, 217, 26, 192, 168, 1, 1, 224, 0, 0, 1, 20, 231, 20, 230, 0, 20, 247, 139, 0, 128, 0, 0, 0, 0, 0, 64, 203, 0, 113, (1 : UInt8)] }
def pq119 : AObj := { t := 298, sz := 3, exact := true, fz := false, body := Body.rows [[vi64 600, vi64 64, v0]] }
def pq120 : AObj := { t := 298, sz := 3, exact := true, fz := false, body := Body.rows [[vi64 600, vi64 64, AV.sl 14 0 1 none]] }
def pq121 : AObj := { t := 331, sz := 4, exact := true, fz := false, body := Body.rows [[vi64 40000, vi64 128, vi64 120, AV.sl 16 0 1 none]] }
def pq122 : AObj := { t := 271, sz := 38, exact := true, fz := false, body := Body.rows [[vi8 2, vi8 0, vi8 0, vi8 0, vi8 0, vi8 2, vi64 3, vi64 120, vi32 5, vi8 203, vi8 0, vi8 113, vi8 1, vi8 255, vi8 255, vi8 255, vi8 0, vi8 203, vi8 0, vi8 113, vi8 254, vi8 203, vi8 0, vi8 113, vi8 254, vi64 3001, vi64 1, vi8 203, vi8 0, vi8 113, vi8 1, vi8 203, vi8 0, vi8 113, vi8 254, vi64 1, vi64 4, vi64 1]] }
def pq123 : AObj := { t := 405, sz := 6, exact := true, fz := false, body := Body.rows [[vi32 3232235876, vi32 3232235907, v0, AV.sl 24 0 3 none, AV.emap, vi64 121]] }
def pq124 : AObj := { t := 298, sz := 3, exact := true, fz := false, body := Body.rows [[vi64 600, vi64 120, AV.sl 14 0 1 none]] }
def pq125 : AObj := { t := 298, sz := 3, exact := true, fz := false, body := Body.rows [[vi64 600, vi64 120, v0]] }
def pq126 : AObj := { t := 124, sz := 51, exact := true, fz := false, body := Body.rows [[vi8 192, vi8 168, vi8 1, vi8 1, vi8 192, vi8 168, vi8 1, vi8 0, vi64 24, vi8 2, vi8 0, vi8 0, vi8 0, vi8 0, vi8 1, vi8 2, vi8 0, vi8 0, vi8 0, vi8 0, vi8 2, vi8 192, vi8 168, vi8 1, vi8 100, vi8 192, vi8 168, vi8 1, vi8 131, vi64 3600, vi8 9, vi8 9, vi8 9, vi8 9, vi64 120, vi64 7200, vi64 30, vi64 40000, v0, v0, vi64 121, vi32 3, AV.ptr 3 0 0, AV.ptr 4 0 0, AV.ptr 5 0 0, AV.ptr 6 0 0, AV.ptr 7 0 0, AV.ptr 8 0 0, AV.ptr 9 0 0, AV.ptr 10 0 0, v0]] }
def pq127 : AObj := { t := 271, sz := 38, exact := true, fz := false, body := Body.rows [[vi8 2, vi8 0, vi8 0, vi8 0, vi8 0, vi8 2, vi64 3, vi64 121, vi32 5, vi8 203, vi8 0, vi8 113, vi8 1, vi8 255, vi8 255, vi8 255, vi8 0, vi8 203, vi8 0, vi8 113, vi8 254, vi8 203, vi8 0, vi8 113, vi8 254, vi64 3001, vi64 1, vi8 203, vi8 0, vi8 113, vi8 1, vi8 203, vi8 0, vi8 113, vi8 254, vi64 1, vi64 4, vi64 1]] }
def pq128 : AObj := { t := 331, sz := 4, exact := true, fz := false, body := Body.rows [[vi64 40000, vi64 128, vi64 121, AV.sl 16 0 0 none]] }
def pq129 : AObj := { t := 298, sz := 3, exact := true, fz := false, body := Body.rows [[vi64 600, vi64 121, v0]] }
def pq130 : AObj := { t := 298, sz := 3, exact := true, fz := false, body := Body.rows [[vi64 600, vi64 121, AV.sl 14 0 1 none]] }
def pq131 (nw : Int) : AObj := { t := 331, sz := 4, exact := true, fz := false, body := Body.rows [[vi64 40000, vi64 128, vi64 (wn nw), AV.sl 16 0 0 none]] }
def pq132 (nw : Int) : AObj := { t := 331, sz := 4, exact := true, fz := false, body := Body.rows [[vi64 40000, vi64 128, vi64 (nw + 1), AV.sl 16 0 0 none]] }
def pq133 : AObj := { t := 2, sz := 1, exact := false, fz := false, body := Body.rows [[vi64 256], [vi64 512], [vi64 0], [vi64 0], [vi64 0], [vi64 0], [vi64 0], [vi64 0], [vi64 0], [vi64 0]] }
def pq134 : AObj := { t := 345, sz := 3, exact := true, fz := false, body := Body.rows [[AV.ptr 7 0 0, vi64 0, AV.sl 19 0 2 none]] }
def pq135 : AObj := { t := 5, sz := 1, exact := false, fz := false, body := Body.bytes [1, 0, 94, 0, 0, 1, 2, 0, 0, 0, 0, 1, 8, 0, 69, 0, 0, 40, 0, 0, 0, 0, 64, 17, 217, 26, 192, 168, 1, 1, 224, 0, 0, 1, 20, 231, 20, 230, 0, 20, 247, 75, 0, 128, 0, 0, 0, 0, 0, 128, 203, 0, 113, (1 : UInt8)] }
def pq136 : AObj := { t := 124, sz := 51, exact := true, fz := false, body := Body.rows [[vi8 192, vi8 168, vi8 1, vi8 1, vi8 192, vi8 168, vi8 1, vi8 0, vi64 24, vi8 2, vi8 0, vi8 0, vi8 0, vi8 0, vi8 1, vi8 2, vi8 0, vi8 0, vi8 0, vi8 0, vi8 2, vi8 192, vi8 168, vi8 1, vi8 100, vi8 192, vi8 168, vi8 1, vi8 131, vi64 3600, vi8 9, vi8 9, vi8 9, vi8 9, vi64 120, vi64 7200, vi64 30, vi64 40000, v0, v0, vi64 128, vi32 3, AV.ptr 3 0 0, AV.ptr 4 0 0, AV.ptr 5 0 0, AV.ptr 6 0 0, AV.ptr 7 0 0, AV.ptr 8 0 0, AV.ptr 9 0 0, AV.ptr 10 0 0, v0]] }
def pq137 : AObj := { t := 298, sz := 3, exact := true, fz := false, body := Body.rows [[vi64 600, vi64 128, v0]] }
def pq138 : AObj := { t := 298, sz := 3, exact := true, fz := false, body := Body.rows [[vi64 600, vi64 128, AV.sl 14 0 1 none]] }
def pq139 : AObj := { t := 271, sz := 38, exact := true, fz := false, body := Body.rows [[vi8 2, vi8 0, vi8 0, vi8 0, vi8 0, vi8 2, vi64 3, vi64 128, vi32 5, vi8 203, vi8 0, vi8 113, vi8 1, vi8 255, vi8 255, vi8 255, vi8 0, vi8 203, vi8 0, vi8 113, vi8 254, vi8 203, vi8 0, vi8 113, vi8 254, vi64 3001, vi64 1, vi8 203, vi8 0, vi8 113, vi8 1, vi8 203, vi8 0, vi8 113, vi8 254, vi64 1, vi64 4, vi64 1]] }
def pq140 : AObj := { t := 331, sz := 4, exact := true, fz := false, body := Body.rows [[vi64 40000, vi64 128, vi64 128, AV.sl 16 0 0 none]] }
def pq141 : AObj := { t := 405, sz := 6, exact := true, fz := false, body := Body.rows [[vi32 3232235876, vi32 3232235907, v0, AV.sl 24 0 3 none, AV.emap, vi64 128]] }
end Go.Proofs.YtfofhpkafhpicaaGreatDoor

/- Rounds of the loop of the law TopShort with nothing due. -/
namespace Go.Proofs.YtfofhpkafhpicaaGreatDoor
open Go.RowKit
set_option linter.unusedVariables false
set_option maxRecDepth 100000 in
theorem sh_q1 (x : Int) (port : Int) (o1 : Int) (wait : Int) (i : Int) (nw : Int) : stepXS (kTP [] o1 o1) hq0 Tryz.prog 5 10 (gA x port o1 wait i nw 3 8 4 8 16 32 64 128 256 512 0 0) (gA x port o1 wait (i + 1) (nw + 1) 3 8 4 8 16 32 64 128 256 512 0 0) [0, 1, 2, 3, 4, 5, 6, 7, 8, 9, 10, 11, 12, 13, 14, 15, 16, 17, 18, 19, 20, 21, 22, 23, 24] 0 [] = some (.normal, (decide (i < wait) = true) :: rp 3 (decide (wn nw > nw) = true) ( (decide (wn nw ≤ 1099511627776) = true) :: rp 3 ((!decide (wn nw < 3601)) = false) ( (SO pq0) :: (SO pq1) :: (SO pq2) :: (SO pq3) :: (SO pq4) :: (SO pq5) :: (SO (pq6 x port o1)) :: (SO (pq7 nw)) :: (SO (pq8 nw)) :: (SO pq9) :: (SO (pq10 nw)) :: (SO pq11) :: (SO pq12) :: (SO (pq13 nw)) :: (SO (pq14 nw)) :: (SO (pq15 nw)) :: rp 3 (decide (wn nw > nw) = true) ( (decide (wn nw ≤ 1099511627776) = true) :: (decide (wn nw ≥ 3001) = false) :: (SO (pq16 nw)) :: (decide (wn nw < 1501) = true) :: (SO pq0) :: (SO pq1) :: (SO pq2) :: (SO pq3) :: (SO pq4) :: (SO pq5) :: (SO (pq6 x port o1)) :: (SO (pq7 nw)) :: (SO (pq16 nw)) :: (SO pq9) :: (SO (pq10 nw)) :: (SO pq11) :: (SO pq12) :: (SO (pq13 nw)) :: (SO (pq14 nw)) :: (SO (pq15 nw)) :: rp 3 (decide (wn nw > nw) = true) ( (decide (wn nw ≤ 1099511627776) = true) :: ((decide (wn nw < 121) == false) = false) :: ((!decide (wn nw < 121)) = false) :: (SO pq0) :: (SO pq1) :: (SO pq2) :: (SO pq3) :: (SO pq4) :: (SO pq5) :: (SO (pq6 x port o1)) :: (SO (pq17 nw)) :: (SO (pq16 nw)) :: (SO pq9) :: (SO (pq10 nw)) :: (SO pq11) :: (SO pq12) :: (SO (pq13 nw)) :: (SO (pq14 nw)) :: (SO (pq15 nw)) :: (decide ((4 : Int) ≤ wn nw) = false) :: (decide ((8 : Int) ≤ wn nw) = false) :: (decide ((16 : Int) ≤ wn nw) = false) :: (decide ((32 : Int) ≤ wn nw) = false) :: (decide ((64 : Int) ≤ wn nw) = false) :: (decide ((128 : Int) ≤ wn nw) = false) :: (decide ((256 : Int) ≤ wn nw) = false) :: (decide ((512 : Int) ≤ wn nw) = false) :: (SO pq0) :: (SO (pq6 x port o1)) :: (SO (pq17 nw)) :: (SO pq1) :: rp 3 (decide (wn nw > nw) = true) ( (decide (wn nw ≤ 1099511627776) = true) :: (SO (pq18 nw)) :: (SO (pq19 nw)) :: (SO pq20) :: rp 3 (decide (wn nw > nw) = true) ( (decide (wn nw ≤ 1099511627776) = true) :: ((!decide (IntKind.wrap IntKind.i64 (wn nw - 1) < 600)) = false) :: (SO (pq18 nw)) :: (SO (pq21 nw)) :: (SO pq22) :: (SO pq12) :: (vi64 wait = vi64 wait) :: (vi64 (IntKind.wrap IntKind.i64 (i + 1)) = vi64 (i + 1)) :: (SameO (some (pq15 nw)) (pq23 nw)) :: (SameO (some (pq19 nw)) (pq24 nw)) :: (SameO (some (pq21 nw)) (pq25 nw)) :: (SameO (some (pq16 nw)) (pq26 nw)) :: (SameO (some (pq17 nw)) (pq27 nw)) :: (SO pq1) :: (SO (pq28 o1)) :: (SameO (some (pq10 nw)) (pq29 nw)) :: (SO (pq6 x port o1)) :: (SO pq0) :: []))))))) := by kernel_rfl

set_option maxRecDepth 100000 in
theorem sh_q2 (x : Int) (port : Int) (o1 : Int) (wait : Int) (i : Int) (nw : Int) : stepXS (kTP [] o1 o1) hq0 Tryz.prog 5 10 (gA x port o1 wait i nw 3 7 8 16 32 64 128 256 512 0 0 0) (gA x port o1 wait (i + 1) (nw + 1) 3 7 8 16 32 64 128 256 512 0 0 0) [0, 1, 2, 3, 4, 5, 6, 7, 8, 9, 10, 11, 12, 13, 14, 15, 16, 17, 18, 19, 20, 21, 22, 23, 24] 0 [] = some (.normal, (decide (i < wait) = true) :: rp 3 (decide (wn nw > nw) = true) ( (decide (wn nw ≤ 1099511627776) = true) :: rp 3 ((!decide (wn nw < 3601)) = false) ( (SO pq30) :: (SO pq31) :: (SO pq2) :: (SO pq3) :: (SO pq4) :: (SO pq5) :: (SO (pq6 x port o1)) :: (SO (pq7 nw)) :: (SO (pq8 nw)) :: (SO pq9) :: (SO (pq10 nw)) :: (SO pq11) :: (SO pq12) :: (SO (pq13 nw)) :: (SO (pq14 nw)) :: (SO (pq15 nw)) :: rp 3 (decide (wn nw > nw) = true) ( (decide (wn nw ≤ 1099511627776) = true) :: (decide (wn nw ≥ 3001) = false) :: (SO (pq16 nw)) :: (decide (wn nw < 1501) = true) :: (SO pq30) :: (SO pq31) :: (SO pq2) :: (SO pq3) :: (SO pq4) :: (SO pq5) :: (SO (pq6 x port o1)) :: (SO (pq7 nw)) :: (SO (pq16 nw)) :: (SO pq9) :: (SO (pq10 nw)) :: (SO pq11) :: (SO pq12) :: (SO (pq13 nw)) :: (SO (pq14 nw)) :: (SO (pq15 nw)) :: rp 3 (decide (wn nw > nw) = true) ( (decide (wn nw ≤ 1099511627776) = true) :: ((decide (wn nw < 121) == false) = false) :: ((!decide (wn nw < 121)) = false) :: (SO pq30) :: (SO pq31) :: (SO pq2) :: (SO pq3) :: (SO pq4) :: (SO pq5) :: (SO (pq6 x port o1)) :: (SO (pq17 nw)) :: (SO (pq16 nw)) :: (SO pq9) :: (SO (pq10 nw)) :: (SO pq11) :: (SO pq12) :: (SO (pq13 nw)) :: (SO (pq14 nw)) :: (SO (pq15 nw)) :: (decide ((8 : Int) ≤ wn nw) = false) :: (decide ((16 : Int) ≤ wn nw) = false) :: (decide ((32 : Int) ≤ wn nw) = false) :: (decide ((64 : Int) ≤ wn nw) = false) :: (decide ((128 : Int) ≤ wn nw) = false) :: (decide ((256 : Int) ≤ wn nw) = false) :: (decide ((512 : Int) ≤ wn nw) = false) :: (SO pq30) :: (SO (pq6 x port o1)) :: (SO (pq17 nw)) :: (SO pq31) :: rp 3 (decide (wn nw > nw) = true) ( (decide (wn nw ≤ 1099511627776) = true) :: (SO (pq18 nw)) :: (SO (pq19 nw)) :: (SO pq20) :: rp 3 (decide (wn nw > nw) = true) ( (decide (wn nw ≤ 1099511627776) = true) :: ((!decide (IntKind.wrap IntKind.i64 (wn nw - 1) < 600)) = false) :: (SO (pq18 nw)) :: (SO (pq21 nw)) :: (SO pq22) :: (SO pq12) :: (vi64 wait = vi64 wait) :: (vi64 (IntKind.wrap IntKind.i64 (i + 1)) = vi64 (i + 1)) :: (SameO (some (pq15 nw)) (pq23 nw)) :: (SameO (some (pq19 nw)) (pq24 nw)) :: (SameO (some (pq21 nw)) (pq25 nw)) :: (SameO (some (pq16 nw)) (pq26 nw)) :: (SameO (some (pq17 nw)) (pq27 nw)) :: (SO pq31) :: (SO (pq28 o1)) :: (SameO (some (pq10 nw)) (pq29 nw)) :: (SO (pq6 x port o1)) :: (SO pq30) :: []))))))) := by kernel_rfl

set_option maxRecDepth 100000 in
theorem sh_q3 (x : Int) (port : Int) (o1 : Int) (wait : Int) (i : Int) (nw : Int) : stepXS (kTP [] o1 o1) hq0 Tryz.prog 5 10 (gA x port o1 wait i nw 3 6 16 32 64 128 256 512 0 0 0 0) (gA x port o1 wait (i + 1) (nw + 1) 3 6 16 32 64 128 256 512 0 0 0 0) [0, 1, 2, 3, 4, 5, 6, 7, 8, 9, 10, 11, 12, 13, 14, 15, 16, 17, 18, 19, 20, 21, 22, 23, 24] 0 [] = some (.normal, (decide (i < wait) = true) :: rp 3 (decide (wn nw > nw) = true) ( (decide (wn nw ≤ 1099511627776) = true) :: rp 3 ((!decide (wn nw < 3601)) = false) ( (SO pq32) :: (SO pq33) :: (SO pq2) :: (SO pq3) :: (SO pq4) :: (SO pq5) :: (SO (pq6 x port o1)) :: (SO (pq7 nw)) :: (SO (pq8 nw)) :: (SO pq9) :: (SO (pq10 nw)) :: (SO pq11) :: (SO pq12) :: (SO (pq13 nw)) :: (SO (pq14 nw)) :: (SO (pq15 nw)) :: rp 3 (decide (wn nw > nw) = true) ( (decide (wn nw ≤ 1099511627776) = true) :: (decide (wn nw ≥ 3001) = false) :: (SO (pq16 nw)) :: (decide (wn nw < 1501) = true) :: (SO pq32) :: (SO pq33) :: (SO pq2) :: (SO pq3) :: (SO pq4) :: (SO pq5) :: (SO (pq6 x port o1)) :: (SO (pq7 nw)) :: (SO (pq16 nw)) :: (SO pq9) :: (SO (pq10 nw)) :: (SO pq11) :: (SO pq12) :: (SO (pq13 nw)) :: (SO (pq14 nw)) :: (SO (pq15 nw)) :: rp 3 (decide (wn nw > nw) = true) ( (decide (wn nw ≤ 1099511627776) = true) :: ((decide (wn nw < 121) == false) = false) :: ((!decide (wn nw < 121)) = false) :: (SO pq32) :: (SO pq33) :: (SO pq2) :: (SO pq3) :: (SO pq4) :: (SO pq5) :: (SO (pq6 x port o1)) :: (SO (pq17 nw)) :: (SO (pq16 nw)) :: (SO pq9) :: (SO (pq10 nw)) :: (SO pq11) :: (SO pq12) :: (SO (pq13 nw)) :: (SO (pq14 nw)) :: (SO (pq15 nw)) :: (decide ((16 : Int) ≤ wn nw) = false) :: (decide ((32 : Int) ≤ wn nw) = false) :: (decide ((64 : Int) ≤ wn nw) = false) :: (decide ((128 : Int) ≤ wn nw) = false) :: (decide ((256 : Int) ≤ wn nw) = false) :: (decide ((512 : Int) ≤ wn nw) = false) :: (SO pq32) :: (SO (pq6 x port o1)) :: (SO (pq17 nw)) :: (SO pq33) :: rp 3 (decide (wn nw > nw) = true) ( (decide (wn nw ≤ 1099511627776) = true) :: (SO (pq18 nw)) :: (SO (pq19 nw)) :: (SO pq20) :: rp 3 (decide (wn nw > nw) = true) ( (decide (wn nw ≤ 1099511627776) = true) :: ((!decide (IntKind.wrap IntKind.i64 (wn nw - 1) < 600)) = false) :: (SO (pq18 nw)) :: (SO (pq21 nw)) :: (SO pq22) :: (SO pq12) :: (vi64 wait = vi64 wait) :: (vi64 (IntKind.wrap IntKind.i64 (i + 1)) = vi64 (i + 1)) :: (SameO (some (pq15 nw)) (pq23 nw)) :: (SameO (some (pq19 nw)) (pq24 nw)) :: (SameO (some (pq21 nw)) (pq25 nw)) :: (SameO (some (pq16 nw)) (pq26 nw)) :: (SameO (some (pq17 nw)) (pq27 nw)) :: (SO pq33) :: (SO (pq28 o1)) :: (SameO (some (pq10 nw)) (pq29 nw)) :: (SO (pq6 x port o1)) :: (SO pq32) :: []))))))) := by kernel_rfl

set_option maxRecDepth 100000 in
theorem sh_q4 (x : Int) (port : Int) (o1 : Int) (wait : Int) (i : Int) (nw : Int) : stepXS (kTP [] o1 o1) hq0 Tryz.prog 5 10 (gA x port o1 wait i nw 3 5 32 64 128 256 512 0 0 0 0 0) (gA x port o1 wait (i + 1) (nw + 1) 3 5 32 64 128 256 512 0 0 0 0 0) [0, 1, 2, 3, 4, 5, 6, 7, 8, 9, 10, 11, 12, 13, 14, 15, 16, 17, 18, 19, 20, 21, 22, 23, 24] 0 [] = some (.normal, (decide (i < wait) = true) :: rp 3 (decide (wn nw > nw) = true) ( (decide (wn nw ≤ 1099511627776) = true) :: rp 3 ((!decide (wn nw < 3601)) = false) ( (SO pq34) :: (SO pq35) :: (SO pq2) :: (SO pq3) :: (SO pq4) :: (SO pq5) :: (SO (pq6 x port o1)) :: (SO (pq7 nw)) :: (SO (pq8 nw)) :: (SO pq9) :: (SO (pq10 nw)) :: (SO pq11) :: (SO pq12) :: (SO (pq13 nw)) :: (SO (pq14 nw)) :: (SO (pq15 nw)) :: rp 3 (decide (wn nw > nw) = true) ( (decide (wn nw ≤ 1099511627776) = true) :: (decide (wn nw ≥ 3001) = false) :: (SO (pq16 nw)) :: (decide (wn nw < 1501) = true) :: (SO pq34) :: (SO pq35) :: (SO pq2) :: (SO pq3) :: (SO pq4) :: (SO pq5) :: (SO (pq6 x port o1)) :: (SO (pq7 nw)) :: (SO (pq16 nw)) :: (SO pq9) :: (SO (pq10 nw)) :: (SO pq11) :: (SO pq12) :: (SO (pq13 nw)) :: (SO (pq14 nw)) :: (SO (pq15 nw)) :: rp 3 (decide (wn nw > nw) = true) ( (decide (wn nw ≤ 1099511627776) = true) :: ((decide (wn nw < 121) == false) = false) :: ((!decide (wn nw < 121)) = false) :: (SO pq34) :: (SO pq35) :: (SO pq2) :: (SO pq3) :: (SO pq4) :: (SO pq5) :: (SO (pq6 x port o1)) :: (SO (pq17 nw)) :: (SO (pq16 nw)) :: (SO pq9) :: (SO (pq10 nw)) :: (SO pq11) :: (SO pq12) :: (SO (pq13 nw)) :: (SO (pq14 nw)) :: (SO (pq15 nw)) :: (decide ((32 : Int) ≤ wn nw) = false) :: (decide ((64 : Int) ≤ wn nw) = false) :: (decide ((128 : Int) ≤ wn nw) = false) :: (decide ((256 : Int) ≤ wn nw) = false) :: (decide ((512 : Int) ≤ wn nw) = false) :: (SO pq34) :: (SO (pq6 x port o1)) :: (SO (pq17 nw)) :: (SO pq35) :: rp 3 (decide (wn nw > nw) = true) ( (decide (wn nw ≤ 1099511627776) = true) :: (SO (pq18 nw)) :: (SO (pq19 nw)) :: (SO pq20) :: rp 3 (decide (wn nw > nw) = true) ( (decide (wn nw ≤ 1099511627776) = true) :: ((!decide (IntKind.wrap IntKind.i64 (wn nw - 1) < 600)) = false) :: (SO (pq18 nw)) :: (SO (pq21 nw)) :: (SO pq22) :: (SO pq12) :: (vi64 wait = vi64 wait) :: (vi64 (IntKind.wrap IntKind.i64 (i + 1)) = vi64 (i + 1)) :: (SameO (some (pq15 nw)) (pq23 nw)) :: (SameO (some (pq19 nw)) (pq24 nw)) :: (SameO (some (pq21 nw)) (pq25 nw)) :: (SameO (some (pq16 nw)) (pq26 nw)) :: (SameO (some (pq17 nw)) (pq27 nw)) :: (SO pq35) :: (SO (pq28 o1)) :: (SameO (some (pq10 nw)) (pq29 nw)) :: (SO (pq6 x port o1)) :: (SO pq34) :: []))))))) := by kernel_rfl

set_option maxRecDepth 100000 in
theorem sh_q5 (x : Int) (port : Int) (o1 : Int) (wait : Int) (i : Int) (nw : Int) : stepXS (kTP [] o1 o1) hq0 Tryz.prog 5 10 (gA x port o1 wait i nw 3 4 64 128 256 512 0 0 0 0 0 0) (gA x port o1 wait (i + 1) (nw + 1) 3 4 64 128 256 512 0 0 0 0 0 0) [0, 1, 2, 3, 4, 5, 6, 7, 8, 9, 10, 11, 12, 13, 14, 15, 16, 17, 18, 19, 20, 21, 22, 23, 24] 0 [] = some (.normal, (decide (i < wait) = true) :: rp 3 (decide (wn nw > nw) = true) ( (decide (wn nw ≤ 1099511627776) = true) :: rp 3 ((!decide (wn nw < 3601)) = false) ( (SO pq36) :: (SO pq37) :: (SO pq2) :: (SO pq3) :: (SO pq4) :: (SO pq5) :: (SO (pq6 x port o1)) :: (SO (pq7 nw)) :: (SO (pq8 nw)) :: (SO pq9) :: (SO (pq10 nw)) :: (SO pq11) :: (SO pq12) :: (SO (pq13 nw)) :: (SO (pq14 nw)) :: (SO (pq15 nw)) :: rp 3 (decide (wn nw > nw) = true) ( (decide (wn nw ≤ 1099511627776) = true) :: (decide (wn nw ≥ 3001) = false) :: (SO (pq16 nw)) :: (decide (wn nw < 1501) = true) :: (SO pq36) :: (SO pq37) :: (SO pq2) :: (SO pq3) :: (SO pq4) :: (SO pq5) :: (SO (pq6 x port o1)) :: (SO (pq7 nw)) :: (SO (pq16 nw)) :: (SO pq9) :: (SO (pq10 nw)) :: (SO pq11) :: (SO pq12) :: (SO (pq13 nw)) :: (SO (pq14 nw)) :: (SO (pq15 nw)) :: rp 3 (decide (wn nw > nw) = true) ( (decide (wn nw ≤ 1099511627776) = true) :: ((decide (wn nw < 121) == false) = false) :: ((!decide (wn nw < 121)) = false) :: (SO pq36) :: (SO pq37) :: (SO pq2) :: (SO pq3) :: (SO pq4) :: (SO pq5) :: (SO (pq6 x port o1)) :: (SO (pq17 nw)) :: (SO (pq16 nw)) :: (SO pq9) :: (SO (pq10 nw)) :: (SO pq11) :: (SO pq12) :: (SO (pq13 nw)) :: (SO (pq14 nw)) :: (SO (pq15 nw)) :: (decide ((64 : Int) ≤ wn nw) = false) :: (decide ((128 : Int) ≤ wn nw) = false) :: (decide ((256 : Int) ≤ wn nw) = false) :: (decide ((512 : Int) ≤ wn nw) = false) :: (SO pq36) :: (SO (pq6 x port o1)) :: (SO (pq17 nw)) :: (SO pq37) :: rp 3 (decide (wn nw > nw) = true) ( (decide (wn nw ≤ 1099511627776) = true) :: (SO (pq18 nw)) :: (SO (pq19 nw)) :: (SO pq20) :: rp 3 (decide (wn nw > nw) = true) ( (decide (wn nw ≤ 1099511627776) = true) :: ((!decide (IntKind.wrap IntKind.i64 (wn nw - 1) < 600)) = false) :: (SO (pq18 nw)) :: (SO (pq21 nw)) :: (SO pq22) :: (SO pq12) :: (vi64 wait = vi64 wait) :: (vi64 (IntKind.wrap IntKind.i64 (i + 1)) = vi64 (i + 1)) :: (SameO (some (pq15 nw)) (pq23 nw)) :: (SameO (some (pq19 nw)) (pq24 nw)) :: (SameO (some (pq21 nw)) (pq25 nw)) :: (SameO (some (pq16 nw)) (pq26 nw)) :: (SameO (some (pq17 nw)) (pq27 nw)) :: (SO pq37) :: (SO (pq28 o1)) :: (SameO (some (pq10 nw)) (pq29 nw)) :: (SO (pq6 x port o1)) :: (SO pq36) :: []))))))) := by kernel_rfl

set_option maxRecDepth 100000 in
theorem sh_q6 (x : Int) (port : Int) (o1 : Int) (wait : Int) (i : Int) (nw : Int) : stepXS (kTP [] o1 o1) hq0 Tryz.prog 5 10 (gA x port o1 wait i nw 3 3 128 256 512 0 0 0 0 0 0 0) (gA x port o1 wait (i + 1) (nw + 1) 3 3 128 256 512 0 0 0 0 0 0 0) [0, 1, 2, 3, 4, 5, 6, 7, 8, 9, 10, 11, 12, 13, 14, 15, 16, 17, 18, 19, 20, 21, 22, 23, 24] 0 [] = some (.normal, (decide (i < wait) = true) :: rp 3 (decide (wn nw > nw) = true) ( (decide (wn nw ≤ 1099511627776) = true) :: rp 3 ((!decide (wn nw < 3601)) = false) ( (SO pq38) :: (SO pq39) :: (SO pq2) :: (SO pq3) :: (SO pq4) :: (SO pq5) :: (SO (pq6 x port o1)) :: (SO (pq7 nw)) :: (SO (pq8 nw)) :: (SO pq9) :: (SO (pq10 nw)) :: (SO pq11) :: (SO pq12) :: (SO (pq13 nw)) :: (SO (pq14 nw)) :: (SO (pq15 nw)) :: rp 3 (decide (wn nw > nw) = true) ( (decide (wn nw ≤ 1099511627776) = true) :: (decide (wn nw ≥ 3001) = false) :: (SO (pq16 nw)) :: (decide (wn nw < 1501) = true) :: (SO pq38) :: (SO pq39) :: (SO pq2) :: (SO pq3) :: (SO pq4) :: (SO pq5) :: (SO (pq6 x port o1)) :: (SO (pq7 nw)) :: (SO (pq16 nw)) :: (SO pq9) :: (SO (pq10 nw)) :: (SO pq11) :: (SO pq12) :: (SO (pq13 nw)) :: (SO (pq14 nw)) :: (SO (pq15 nw)) :: rp 3 (decide (wn nw > nw) = true) ( (decide (wn nw ≤ 1099511627776) = true) :: ((decide (wn nw < 121) == false) = false) :: ((!decide (wn nw < 121)) = false) :: (SO pq38) :: (SO pq39) :: (SO pq2) :: (SO pq3) :: (SO pq4) :: (SO pq5) :: (SO (pq6 x port o1)) :: (SO (pq17 nw)) :: (SO (pq16 nw)) :: (SO pq9) :: (SO (pq10 nw)) :: (SO pq11) :: (SO pq12) :: (SO (pq13 nw)) :: (SO (pq14 nw)) :: (SO (pq15 nw)) :: (decide ((128 : Int) ≤ wn nw) = false) :: (decide ((256 : Int) ≤ wn nw) = false) :: (decide ((512 : Int) ≤ wn nw) = false) :: (SO pq38) :: (SO (pq6 x port o1)) :: (SO (pq17 nw)) :: (SO pq39) :: rp 3 (decide (wn nw > nw) = true) ( (decide (wn nw ≤ 1099511627776) = true) :: (SO (pq18 nw)) :: (SO (pq19 nw)) :: (SO pq20) :: rp 3 (decide (wn nw > nw) = true) ( (decide (wn nw ≤ 1099511627776) = true) :: ((!decide (IntKind.wrap IntKind.i64 (wn nw - 1) < 600)) = false) :: (SO (pq18 nw)) :: (SO (pq21 nw)) :: (SO pq22) :: (SO pq12) :: (vi64 wait = vi64 wait) :: (vi64 (IntKind.wrap IntKind.i64 (i + 1)) = vi64 (i + 1)) :: (SameO (some (pq15 nw)) (pq23 nw)) :: (SameO (some (pq19 nw)) (pq24 nw)) :: (SameO (some (pq21 nw)) (pq25 nw)) :: (SameO (some (pq16 nw)) (pq26 nw)) :: (SameO (some (pq17 nw)) (pq27 nw)) :: (SO pq39) :: (SO (pq28 o1)) :: (SameO (some (pq10 nw)) (pq29 nw)) :: (SO (pq6 x port o1)) :: (SO pq38) :: []))))))) := by kernel_rfl

set_option maxRecDepth 100000 in
theorem sh_xa (x : Int) (port : Int) (o1 : Int) (wait : Int) (i : Int) (nw : Int) (dr : Int) (m : Nat) (e0 : Int) (e1 : Int) (e2 : Int) (e3 : Int) (e4 : Int) (e5 : Int) (e6 : Int) (e7 : Int) (e8 : Int) (e9 : Int) : stepXS (kTP [] o1 o1) hq1 Tryz.prog 5 10 (gA x port o1 wait i nw dr m e0 e1 e2 e3 e4 e5 e6 e7 e8 e9) (gA x port o1 wait i nw dr m e0 e1 e2 e3 e4 e5 e6 e7 e8 e9) [0, 1, 2, 3, 4, 5, 6, 7, 8, 9, 10, 11, 12, 13, 14, 15, 16, 17, 18, 19, 20, 21, 22, 23, 24] 0 [] = some (.exit 0, (decide (i < wait) = false) :: (vi64 wait = vi64 wait) :: (vi64 i = vi64 i) :: (SO (pq40 nw dr)) :: (SO (pq14 nw)) :: (SO (pq13 nw)) :: (SO (pq8 nw)) :: (SO (pq7 nw)) :: (SO (pq41 m)) :: (SO (pq28 o1)) :: (SO (pq42 nw)) :: (SO (pq6 x port o1)) :: (SO (pq43 e0 e1 e2 e3 e4 e5 e6 e7 e8 e9)) :: []) := by kernel_rfl

set_option maxRecDepth 100000 in
theorem sh_xd (o1 : Int) (wait : Int) (i : Int) (nw : Int) (dr : Int) (m : Nat) (e0 : Int) (e1 : Int) (e2 : Int) (e3 : Int) (e4 : Int) (e5 : Int) (e6 : Int) (e7 : Int) (e8 : Int) (e9 : Int) : stepXS (kTP [] o1 o1) hq1 Tryz.prog 5 10 (gD o1 wait i nw dr m e0 e1 e2 e3 e4 e5 e6 e7 e8 e9) (gD o1 wait i nw dr m e0 e1 e2 e3 e4 e5 e6 e7 e8 e9) [0, 1, 2, 3, 4, 5, 6, 7, 8, 9, 10, 11, 12, 13, 14, 15, 16, 17, 18, 19, 20, 21, 22, 23, 24] 0 [] = some (.exit 0, (decide (i < wait) = false) :: (vi64 wait = vi64 wait) :: (vi64 i = vi64 i) :: (SO (pq40 nw dr)) :: (SO (pq14 nw)) :: (SO (pq13 nw)) :: (SO (pq8 nw)) :: (SO (pq44 nw)) :: (SO (pq41 m)) :: (SO (pq28 o1)) :: (SO (pq42 nw)) :: (SO pq45) :: (SO (pq43 e0 e1 e2 e3 e4 e5 e6 e7 e8 e9)) :: []) := by kernel_rfl
end Go.Proofs.YtfofhpkafhpicaaGreatDoor

/- Rounds of the loop of the law TopShort with something due. -/
namespace Go.Proofs.YtfofhpkafhpicaaGreatDoor
open Go.RowKit
set_option linter.unusedVariables false
set_option maxRecDepth 100000 in
theorem sh_e0 (x : Int) (port : Int) (o1 : Int) (wait : Int) : stepXS (kTP [] o1 o1) hq2 Tryz.prog 5 10 (gA x port o1 wait 0 1 5 10 1 2 4 8 16 32 64 128 256 512) (gA x port o1 wait 1 2 3 8 4 8 16 32 64 128 256 512 0 0) [0, 1, 2, 3, 4, 5, 6, 7, 8, 9, 10, 11, 12, 13, 14, 15, 16, 17, 18, 19, 20, 21, 22, 23, 24] 0 [] = some (.normal, (decide ((0 : Int) < wait) = true) :: (SO pq46) :: (SO pq47) :: (SO pq2) :: (SO pq3) :: (SO pq4) :: (SO pq5) :: (SO (pq6 x port o1)) :: (SO pq48) :: (SO pq49) :: (SO pq9) :: (SO pq50) :: (SO pq11) :: (SO pq12) :: (SO pq51) :: (SO pq52) :: (SO pq53) :: (SO pq46) :: (SO pq47) :: (SO pq2) :: (SO pq3) :: (SO pq4) :: (SO pq5) :: (SO (pq6 x port o1)) :: (SO pq48) :: (SO pq54) :: (SO pq9) :: (SO pq50) :: (SO pq11) :: (SO pq12) :: (SO pq51) :: (SO pq52) :: (SO pq53) :: (SO pq46) :: (SO pq47) :: (SO pq2) :: (SO pq3) :: (SO pq4) :: (SO pq5) :: (SO (pq6 x port o1)) :: (SO pq55) :: (SO pq54) :: (SO pq9) :: (SO pq50) :: (SO pq11) :: (SO pq12) :: (SO pq51) :: (SO pq52) :: (SO pq53) :: (SO pq0) :: (SO (pq6 x port o1)) :: (SO pq55) :: (SO pq1) :: (SO pq0) :: (SO pq1) :: (SO pq2) :: (SO pq3) :: (SO pq4) :: (SO pq5) :: (SO (pq6 x port o1)) :: (SO pq55) :: (SO pq54) :: (SO pq9) :: (SO pq50) :: (SO pq11) :: (SO pq12) :: (SO pq51) :: (SO pq52) :: (SO pq53) :: (SO pq56) :: (SO pq57) :: (SO pq58) :: (SO pq59) :: (SO pq60) :: (SO pq61) :: (SO (pq28 o1)) :: (SO pq62) :: (SO pq63) :: (vi64 wait = vi64 wait) :: (vi64 1 = vi64 1) :: (SO pq53) :: (SO pq64) :: (SO pq65) :: (SO pq54) :: (SO pq55) :: (SO pq1) :: (SO (pq28 o1)) :: (SO pq50) :: (SO (pq6 x port o1)) :: (SO pq0) :: []) := by kernel_rfl

set_option maxRecDepth 100000 in
theorem sh_e1 (x : Int) (port : Int) (o1 : Int) (wait : Int) : stepXS (kTP [] o1 o1) hq2 Tryz.prog 5 10 (gA x port o1 wait 2 3 3 8 4 8 16 32 64 128 256 512 0 0) (gA x port o1 wait 3 4 3 7 8 16 32 64 128 256 512 0 0 0) [0, 1, 2, 3, 4, 5, 6, 7, 8, 9, 10, 11, 12, 13, 14, 15, 16, 17, 18, 19, 20, 21, 22, 23, 24] 0 [] = some (.normal, (decide ((2 : Int) < wait) = true) :: (SO pq0) :: (SO pq1) :: (SO pq2) :: (SO pq3) :: (SO pq4) :: (SO pq5) :: (SO (pq6 x port o1)) :: (SO pq66) :: (SO pq67) :: (SO pq9) :: (SO pq68) :: (SO pq11) :: (SO pq12) :: (SO pq69) :: (SO pq70) :: (SO pq71) :: (SO pq0) :: (SO pq1) :: (SO pq2) :: (SO pq3) :: (SO pq4) :: (SO pq5) :: (SO (pq6 x port o1)) :: (SO pq66) :: (SO pq72) :: (SO pq9) :: (SO pq68) :: (SO pq11) :: (SO pq12) :: (SO pq69) :: (SO pq70) :: (SO pq71) :: (SO pq0) :: (SO pq1) :: (SO pq2) :: (SO pq3) :: (SO pq4) :: (SO pq5) :: (SO (pq6 x port o1)) :: (SO pq73) :: (SO pq72) :: (SO pq9) :: (SO pq68) :: (SO pq11) :: (SO pq12) :: (SO pq69) :: (SO pq70) :: (SO pq71) :: (SO pq30) :: (SO (pq6 x port o1)) :: (SO pq73) :: (SO pq31) :: (SO pq30) :: (SO pq31) :: (SO pq2) :: (SO pq3) :: (SO pq4) :: (SO pq5) :: (SO (pq6 x port o1)) :: (SO pq73) :: (SO pq72) :: (SO pq9) :: (SO pq68) :: (SO pq11) :: (SO pq12) :: (SO pq69) :: (SO pq70) :: (SO pq71) :: (SO pq74) :: (SO pq57) :: (SO pq58) :: (SO pq59) :: (SO pq60) :: (SO pq61) :: (SO (pq28 o1)) :: (SO pq62) :: (SO pq63) :: (vi64 wait = vi64 wait) :: (vi64 3 = vi64 3) :: (SO pq71) :: (SO pq75) :: (SO pq76) :: (SO pq72) :: (SO pq73) :: (SO pq31) :: (SO (pq28 o1)) :: (SO pq68) :: (SO (pq6 x port o1)) :: (SO pq30) :: []) := by kernel_rfl

set_option maxRecDepth 100000 in
theorem sh_e2 (x : Int) (port : Int) (o1 : Int) (wait : Int) : stepXS (kTP [] o1 o1) hq2 Tryz.prog 5 10 (gA x port o1 wait 6 7 3 7 8 16 32 64 128 256 512 0 0 0) (gA x port o1 wait 7 8 3 6 16 32 64 128 256 512 0 0 0 0) [0, 1, 2, 3, 4, 5, 6, 7, 8, 9, 10, 11, 12, 13, 14, 15, 16, 17, 18, 19, 20, 21, 22, 23, 24] 0 [] = some (.normal, (decide ((6 : Int) < wait) = true) :: (SO pq30) :: (SO pq31) :: (SO pq2) :: (SO pq3) :: (SO pq4) :: (SO pq5) :: (SO (pq6 x port o1)) :: (SO pq77) :: (SO pq78) :: (SO pq9) :: (SO pq79) :: (SO pq11) :: (SO pq12) :: (SO pq80) :: (SO pq81) :: (SO pq82) :: (SO pq30) :: (SO pq31) :: (SO pq2) :: (SO pq3) :: (SO pq4) :: (SO pq5) :: (SO (pq6 x port o1)) :: (SO pq77) :: (SO pq83) :: (SO pq9) :: (SO pq79) :: (SO pq11) :: (SO pq12) :: (SO pq80) :: (SO pq81) :: (SO pq82) :: (SO pq30) :: (SO pq31) :: (SO pq2) :: (SO pq3) :: (SO pq4) :: (SO pq5) :: (SO (pq6 x port o1)) :: (SO pq84) :: (SO pq83) :: (SO pq9) :: (SO pq79) :: (SO pq11) :: (SO pq12) :: (SO pq80) :: (SO pq81) :: (SO pq82) :: (SO pq32) :: (SO (pq6 x port o1)) :: (SO pq84) :: (SO pq33) :: (SO pq32) :: (SO pq33) :: (SO pq2) :: (SO pq3) :: (SO pq4) :: (SO pq5) :: (SO (pq6 x port o1)) :: (SO pq84) :: (SO pq83) :: (SO pq9) :: (SO pq79) :: (SO pq11) :: (SO pq12) :: (SO pq80) :: (SO pq81) :: (SO pq82) :: (SO pq85) :: (SO pq57) :: (SO pq58) :: (SO pq59) :: (SO pq60) :: (SO pq61) :: (SO (pq28 o1)) :: (SO pq62) :: (SO pq63) :: (vi64 wait = vi64 wait) :: (vi64 7 = vi64 7) :: (SO pq82) :: (SO pq86) :: (SO pq87) :: (SO pq83) :: (SO pq84) :: (SO pq33) :: (SO (pq28 o1)) :: (SO pq79) :: (SO (pq6 x port o1)) :: (SO pq32) :: []) := by kernel_rfl

set_option maxRecDepth 100000 in
theorem sh_e3 (x : Int) (port : Int) (o1 : Int) (wait : Int) : stepXS (kTP [] o1 o1) hq2 Tryz.prog 5 10 (gA x port o1 wait 14 15 3 6 16 32 64 128 256 512 0 0 0 0) (gA x port o1 wait 15 16 3 5 32 64 128 256 512 0 0 0 0 0) [0, 1, 2, 3, 4, 5, 6, 7, 8, 9, 10, 11, 12, 13, 14, 15, 16, 17, 18, 19, 20, 21, 22, 23, 24] 0 [] = some (.normal, (decide ((14 : Int) < wait) = true) :: (SO pq32) :: (SO pq33) :: (SO pq2) :: (SO pq3) :: (SO pq4) :: (SO pq5) :: (SO (pq6 x port o1)) :: (SO pq88) :: (SO pq89) :: (SO pq9) :: (SO pq90) :: (SO pq11) :: (SO pq12) :: (SO pq91) :: (SO pq92) :: (SO pq93) :: (SO pq32) :: (SO pq33) :: (SO pq2) :: (SO pq3) :: (SO pq4) :: (SO pq5) :: (SO (pq6 x port o1)) :: (SO pq88) :: (SO pq94) :: (SO pq9) :: (SO pq90) :: (SO pq11) :: (SO pq12) :: (SO pq91) :: (SO pq92) :: (SO pq93) :: (SO pq32) :: (SO pq33) :: (SO pq2) :: (SO pq3) :: (SO pq4) :: (SO pq5) :: (SO (pq6 x port o1)) :: (SO pq95) :: (SO pq94) :: (SO pq9) :: (SO pq90) :: (SO pq11) :: (SO pq12) :: (SO pq91) :: (SO pq92) :: (SO pq93) :: (SO pq34) :: (SO (pq6 x port o1)) :: (SO pq95) :: (SO pq35) :: (SO pq34) :: (SO pq35) :: (SO pq2) :: (SO pq3) :: (SO pq4) :: (SO pq5) :: (SO (pq6 x port o1)) :: (SO pq95) :: (SO pq94) :: (SO pq9) :: (SO pq90) :: (SO pq11) :: (SO pq12) :: (SO pq91) :: (SO pq92) :: (SO pq93) :: (SO pq96) :: (SO pq57) :: (SO pq58) :: (SO pq59) :: (SO pq60) :: (SO pq61) :: (SO (pq28 o1)) :: (SO pq62) :: (SO pq63) :: (vi64 wait = vi64 wait) :: (vi64 15 = vi64 15) :: (SO pq93) :: (SO pq97) :: (SO pq98) :: (SO pq94) :: (SO pq95) :: (SO pq35) :: (SO (pq28 o1)) :: (SO pq90) :: (SO (pq6 x port o1)) :: (SO pq34) :: []) := by kernel_rfl

set_option maxRecDepth 100000 in
theorem sh_e4 (x : Int) (port : Int) (o1 : Int) (wait : Int) : stepXS (kTP [] o1 o1) hq2 Tryz.prog 5 10 (gA x port o1 wait 30 31 3 5 32 64 128 256 512 0 0 0 0 0) (gA x port o1 wait 31 32 3 4 64 128 256 512 0 0 0 0 0 0) [0, 1, 2, 3, 4, 5, 6, 7, 8, 9, 10, 11, 12, 13, 14, 15, 16, 17, 18, 19, 20, 21, 22, 23, 24] 0 [] = some (.normal, (decide ((30 : Int) < wait) = true) :: (SO pq34) :: (SO pq35) :: (SO pq2) :: (SO pq3) :: (SO pq4) :: (SO pq5) :: (SO (pq6 x port o1)) :: (SO pq99) :: (SO pq100) :: (SO pq9) :: (SO pq101) :: (SO pq11) :: (SO pq12) :: (SO pq102) :: (SO pq103) :: (SO pq104) :: (SO pq34) :: (SO pq35) :: (SO pq2) :: (SO pq3) :: (SO pq4) :: (SO pq5) :: (SO (pq6 x port o1)) :: (SO pq99) :: (SO pq105) :: (SO pq9) :: (SO pq101) :: (SO pq11) :: (SO pq12) :: (SO pq102) :: (SO pq103) :: (SO pq104) :: (SO pq34) :: (SO pq35) :: (SO pq2) :: (SO pq3) :: (SO pq4) :: (SO pq5) :: (SO (pq6 x port o1)) :: (SO pq106) :: (SO pq105) :: (SO pq9) :: (SO pq101) :: (SO pq11) :: (SO pq12) :: (SO pq102) :: (SO pq103) :: (SO pq104) :: (SO pq36) :: (SO (pq6 x port o1)) :: (SO pq106) :: (SO pq37) :: (SO pq36) :: (SO pq37) :: (SO pq2) :: (SO pq3) :: (SO pq4) :: (SO pq5) :: (SO (pq6 x port o1)) :: (SO pq106) :: (SO pq105) :: (SO pq9) :: (SO pq101) :: (SO pq11) :: (SO pq12) :: (SO pq102) :: (SO pq103) :: (SO pq104) :: (SO pq107) :: (SO pq57) :: (SO pq58) :: (SO pq59) :: (SO pq60) :: (SO pq61) :: (SO (pq28 o1)) :: (SO pq62) :: (SO pq63) :: (vi64 wait = vi64 wait) :: (vi64 31 = vi64 31) :: (SO pq104) :: (SO pq108) :: (SO pq109) :: (SO pq105) :: (SO pq106) :: (SO pq37) :: (SO (pq28 o1)) :: (SO pq101) :: (SO (pq6 x port o1)) :: (SO pq36) :: []) := by kernel_rfl

set_option maxRecDepth 100000 in
theorem sh_e5 (x : Int) (port : Int) (o1 : Int) (wait : Int) : stepXS (kTP [] o1 o1) hq2 Tryz.prog 5 10 (gA x port o1 wait 62 63 3 4 64 128 256 512 0 0 0 0 0 0) (gA x port o1 wait 63 64 3 3 128 256 512 0 0 0 0 0 0 0) [0, 1, 2, 3, 4, 5, 6, 7, 8, 9, 10, 11, 12, 13, 14, 15, 16, 17, 18, 19, 20, 21, 22, 23, 24] 0 [] = some (.normal, (decide ((62 : Int) < wait) = true) :: (SO pq36) :: (SO pq37) :: (SO pq2) :: (SO pq3) :: (SO pq4) :: (SO pq5) :: (SO (pq6 x port o1)) :: (SO pq110) :: (SO pq111) :: (SO pq9) :: (SO pq112) :: (SO pq11) :: (SO pq12) :: (SO pq113) :: (SO pq114) :: (SO pq115) :: (SO pq36) :: (SO pq37) :: (SO pq2) :: (SO pq3) :: (SO pq4) :: (SO pq5) :: (SO (pq6 x port o1)) :: (SO pq110) :: (SO pq116) :: (SO pq9) :: (SO pq112) :: (SO pq11) :: (SO pq12) :: (SO pq113) :: (SO pq114) :: (SO pq115) :: (SO pq36) :: (SO pq37) :: (SO pq2) :: (SO pq3) :: (SO pq4) :: (SO pq5) :: (SO (pq6 x port o1)) :: (SO pq117) :: (SO pq116) :: (SO pq9) :: (SO pq112) :: (SO pq11) :: (SO pq12) :: (SO pq113) :: (SO pq114) :: (SO pq115) :: (SO pq38) :: (SO (pq6 x port o1)) :: (SO pq117) :: (SO pq39) :: (SO pq38) :: (SO pq39) :: (SO pq2) :: (SO pq3) :: (SO pq4) :: (SO pq5) :: (SO (pq6 x port o1)) :: (SO pq117) :: (SO pq116) :: (SO pq9) :: (SO pq112) :: (SO pq11) :: (SO pq12) :: (SO pq113) :: (SO pq114) :: (SO pq115) :: (SO pq118) :: (SO pq57) :: (SO pq58) :: (SO pq59) :: (SO pq60) :: (SO pq61) :: (SO (pq28 o1)) :: (SO pq62) :: (SO pq63) :: (vi64 wait = vi64 wait) :: (vi64 63 = vi64 63) :: (SO pq115) :: (SO pq119) :: (SO pq120) :: (SO pq116) :: (SO pq117) :: (SO pq39) :: (SO (pq28 o1)) :: (SO pq112) :: (SO (pq6 x port o1)) :: (SO pq38) :: []) := by kernel_rfl
end Go.Proofs.YtfofhpkafhpicaaGreatDoor

/- Rounds of the loop of the law TopShort at which the mapping is over, and behind it. -/
namespace Go.Proofs.YtfofhpkafhpicaaGreatDoor
open Go.RowKit
set_option linter.unusedVariables false
set_option maxRecDepth 100000 in
theorem sh_die (x : Int) (port : Int) (o1 : Int) (wait : Int) : stepXS (kTP [] o1 o1) hq3 Tryz.prog 5 10 (gA x port o1 wait 119 120 3 3 128 256 512 0 0 0 0 0 0 0) (gD o1 wait 120 121 3 3 128 256 512 0 0 0 0 0 0 0) [0, 1, 2, 3, 4, 5, 6, 7, 8, 9, 10, 11, 12, 13, 14, 15, 16, 17, 18, 19, 20, 21, 22, 23, 24] 0 [] = some (.normal, (decide ((119 : Int) < wait) = true) :: (SO pq38) :: (SO pq39) :: (SO pq2) :: (SO pq3) :: (SO pq4) :: (SO pq5) :: (SO (pq6 x port o1)) :: (SO pq121) :: (SO pq122) :: (SO pq9) :: (SO pq123) :: (SO pq11) :: (SO pq12) :: (SO pq124) :: (SO pq125) :: (SO pq126) :: (SO pq38) :: (SO pq39) :: (SO pq2) :: (SO pq3) :: (SO pq4) :: (SO pq5) :: (SO (pq6 x port o1)) :: (SO pq121) :: (SO pq127) :: (SO pq9) :: (SO pq123) :: (SO pq11) :: (SO pq12) :: (SO pq124) :: (SO pq125) :: (SO pq126) :: (SO (pq6 x port o1)) :: (SO pq38) :: (SO pq39) :: (SO pq2) :: (SO pq3) :: (SO pq4) :: (SO pq5) :: (SO pq45) :: (SO pq128) :: (SO pq127) :: (SO pq9) :: (SO pq123) :: (SO pq11) :: (SO pq12) :: (SO pq124) :: (SO pq125) :: (SO pq126) :: (vi64 wait = vi64 wait) :: (vi64 120 = vi64 120) :: (SO pq126) :: (SO pq129) :: (SO pq130) :: (SO pq127) :: (SO pq128) :: (SO pq39) :: (SO (pq28 o1)) :: (SO pq123) :: (SO pq45) :: (SO pq38) :: []) := by kernel_rfl

set_option maxRecDepth 100000 in
theorem sh_d6 (o1 : Int) (wait : Int) (i : Int) (nw : Int) : stepXS (kTP [] o1 o1) hq4 Tryz.prog 5 10 (gD o1 wait i nw 3 3 128 256 512 0 0 0 0 0 0 0) (gD o1 wait (i + 1) (nw + 1) 3 3 128 256 512 0 0 0 0 0 0 0) [0, 1, 2, 3, 4, 5, 6, 7, 8, 9, 10, 11, 12, 13, 14, 15, 16, 17, 18, 19, 20, 21, 22, 23, 24] 0 [] = some (.normal, (decide (i < wait) = true) :: rp 3 (decide (wn nw > nw) = true) ( (decide (wn nw ≤ 1099511627776) = true) :: rp 3 ((!decide (wn nw < 3601)) = false) ( (SO pq38) :: (SO pq39) :: (SO pq2) :: (SO pq3) :: (SO pq4) :: (SO pq5) :: (SO pq45) :: (SO (pq44 nw)) :: (SO (pq8 nw)) :: (SO pq9) :: (SO (pq10 nw)) :: (SO pq11) :: (SO pq12) :: (SO (pq13 nw)) :: (SO (pq14 nw)) :: (SO (pq15 nw)) :: rp 3 (decide (wn nw > nw) = true) ( (decide (wn nw ≤ 1099511627776) = true) :: (decide (wn nw ≥ 3001) = false) :: (SO (pq16 nw)) :: (decide (wn nw < 1501) = true) :: (SO pq38) :: (SO pq39) :: (SO pq2) :: (SO pq3) :: (SO pq4) :: (SO pq5) :: (SO pq45) :: (SO (pq44 nw)) :: (SO (pq16 nw)) :: (SO pq9) :: (SO (pq10 nw)) :: (SO pq11) :: (SO pq12) :: (SO (pq13 nw)) :: (SO (pq14 nw)) :: (SO (pq15 nw)) :: rp 3 (decide (wn nw > nw) = true) ( (decide (wn nw ≤ 1099511627776) = true) :: (SO pq38) :: (SO pq39) :: (SO pq2) :: (SO pq3) :: (SO pq4) :: (SO pq5) :: (SO pq45) :: (SO (pq131 nw)) :: (SO (pq16 nw)) :: (SO pq9) :: (SO (pq10 nw)) :: (SO pq11) :: (SO pq12) :: (SO (pq13 nw)) :: (SO (pq14 nw)) :: (SO (pq15 nw)) :: (decide ((128 : Int) ≤ wn nw) = false) :: (decide ((256 : Int) ≤ wn nw) = false) :: (decide ((512 : Int) ≤ wn nw) = false) :: (SO pq38) :: (SO pq45) :: (SO (pq131 nw)) :: (SO pq39) :: rp 3 (decide (wn nw > nw) = true) ( (decide (wn nw ≤ 1099511627776) = true) :: (SO (pq18 nw)) :: (SO (pq19 nw)) :: (SO pq20) :: rp 3 (decide (wn nw > nw) = true) ( (decide (wn nw ≤ 1099511627776) = true) :: ((!decide (IntKind.wrap IntKind.i64 (wn nw - 1) < 600)) = false) :: (SO (pq18 nw)) :: (SO (pq21 nw)) :: (SO pq22) :: (SO pq12) :: (vi64 wait = vi64 wait) :: (vi64 (IntKind.wrap IntKind.i64 (i + 1)) = vi64 (i + 1)) :: (SameO (some (pq15 nw)) (pq23 nw)) :: (SameO (some (pq19 nw)) (pq24 nw)) :: (SameO (some (pq21 nw)) (pq25 nw)) :: (SameO (some (pq16 nw)) (pq26 nw)) :: (SameO (some (pq131 nw)) (pq132 nw)) :: (SO pq39) :: (SO (pq28 o1)) :: (SameO (some (pq10 nw)) (pq29 nw)) :: (SO pq45) :: (SO pq38) :: []))))))) := by kernel_rfl

set_option maxRecDepth 100000 in
theorem sh_d7 (o1 : Int) (wait : Int) (i : Int) (nw : Int) : stepXS (kTP [] o1 o1) hq4 Tryz.prog 5 10 (gD o1 wait i nw 3 2 256 512 0 0 0 0 0 0 0 0) (gD o1 wait (i + 1) (nw + 1) 3 2 256 512 0 0 0 0 0 0 0 0) [0, 1, 2, 3, 4, 5, 6, 7, 8, 9, 10, 11, 12, 13, 14, 15, 16, 17, 18, 19, 20, 21, 22, 23, 24] 0 [] = some (.normal, (decide (i < wait) = true) :: rp 3 (decide (wn nw > nw) = true) ( (decide (wn nw ≤ 1099511627776) = true) :: rp 3 ((!decide (wn nw < 3601)) = false) ( (SO pq133) :: (SO pq134) :: (SO pq2) :: (SO pq3) :: (SO pq4) :: (SO pq5) :: (SO pq45) :: (SO (pq44 nw)) :: (SO (pq8 nw)) :: (SO pq9) :: (SO (pq10 nw)) :: (SO pq11) :: (SO pq12) :: (SO (pq13 nw)) :: (SO (pq14 nw)) :: (SO (pq15 nw)) :: rp 3 (decide (wn nw > nw) = true) ( (decide (wn nw ≤ 1099511627776) = true) :: (decide (wn nw ≥ 3001) = false) :: (SO (pq16 nw)) :: (decide (wn nw < 1501) = true) :: (SO pq133) :: (SO pq134) :: (SO pq2) :: (SO pq3) :: (SO pq4) :: (SO pq5) :: (SO pq45) :: (SO (pq44 nw)) :: (SO (pq16 nw)) :: (SO pq9) :: (SO (pq10 nw)) :: (SO pq11) :: (SO pq12) :: (SO (pq13 nw)) :: (SO (pq14 nw)) :: (SO (pq15 nw)) :: rp 3 (decide (wn nw > nw) = true) ( (decide (wn nw ≤ 1099511627776) = true) :: (SO pq133) :: (SO pq134) :: (SO pq2) :: (SO pq3) :: (SO pq4) :: (SO pq5) :: (SO pq45) :: (SO (pq131 nw)) :: (SO (pq16 nw)) :: (SO pq9) :: (SO (pq10 nw)) :: (SO pq11) :: (SO pq12) :: (SO (pq13 nw)) :: (SO (pq14 nw)) :: (SO (pq15 nw)) :: (decide ((256 : Int) ≤ wn nw) = false) :: (decide ((512 : Int) ≤ wn nw) = false) :: (SO pq133) :: (SO pq45) :: (SO (pq131 nw)) :: (SO pq134) :: rp 3 (decide (wn nw > nw) = true) ( (decide (wn nw ≤ 1099511627776) = true) :: (SO (pq18 nw)) :: (SO (pq19 nw)) :: (SO pq20) :: rp 3 (decide (wn nw > nw) = true) ( (decide (wn nw ≤ 1099511627776) = true) :: ((!decide (IntKind.wrap IntKind.i64 (wn nw - 1) < 600)) = false) :: (SO (pq18 nw)) :: (SO (pq21 nw)) :: (SO pq22) :: (SO pq12) :: (vi64 wait = vi64 wait) :: (vi64 (IntKind.wrap IntKind.i64 (i + 1)) = vi64 (i + 1)) :: (SameO (some (pq15 nw)) (pq23 nw)) :: (SameO (some (pq19 nw)) (pq24 nw)) :: (SameO (some (pq21 nw)) (pq25 nw)) :: (SameO (some (pq16 nw)) (pq26 nw)) :: (SameO (some (pq131 nw)) (pq132 nw)) :: (SO pq134) :: (SO (pq28 o1)) :: (SameO (some (pq10 nw)) (pq29 nw)) :: (SO pq45) :: (SO pq133) :: []))))))) := by kernel_rfl

set_option maxRecDepth 100000 in
theorem sh_f (o1 : Int) (wait : Int) : stepXS (kTP [] o1 o1) hq5 Tryz.prog 5 10 (gD o1 wait 126 127 3 3 128 256 512 0 0 0 0 0 0 0) (gD o1 wait 127 128 3 2 256 512 0 0 0 0 0 0 0 0) [0, 1, 2, 3, 4, 5, 6, 7, 8, 9, 10, 11, 12, 13, 14, 15, 16, 17, 18, 19, 20, 21, 22, 23, 24] 0 [] = some (.normal, (decide ((126 : Int) < wait) = true) :: (SO pq135) :: (SO pq57) :: (SO pq58) :: (SO pq59) :: (SO pq60) :: (SO pq61) :: (SO (pq28 o1)) :: (SO pq62) :: (SO pq63) :: (vi64 wait = vi64 wait) :: (vi64 127 = vi64 127) :: (SO pq136) :: (SO pq137) :: (SO pq138) :: (SO pq139) :: (SO pq140) :: (SO pq134) :: (SO (pq28 o1)) :: (SO pq141) :: (SO pq45) :: (SO pq133) :: []) := by kernel_rfl
end Go.Proofs.YtfofhpkafhpicaaGreatDoor

/- The loop of the law TopShort, walked: the ticks up to whatever count is asked for. -/
namespace Go.Proofs.YtfofhpkafhpicaaGreatDoor.topShort
open Go.RowKit
set_option linter.unusedSimpArgs false
set_option linter.unusedVariables false

abbrev shL (P : Program) : Code := loopAt P 5 10
theorem runA1 (x port o1 w : Int) {F : GoalX} : ∀ (n : Nat) (i : Int), 1 ≤ i → i + n ≤ 2 → i + n ≤ w → EvXL Tryz.prog 0 (shL Tryz.prog) ((gA x port o1 w (i + n) (i + n + 1) 3 8 4 8 16 32 64 128 256 512 0 0).st 0) (.exit 0) (F.st 0) → EvXL Tryz.prog 0 (shL Tryz.prog) ((gA x port o1 w i (i + 1) 3 8 4 8 16 32 64 128 256 512 0 0).st 0) (.exit 0) (F.st 0)
  | 0, i, _, _, _, h => by simpa using h
  | n + 1, i, a, b, c, h => by
    have h1 : IntKind.wrap IntKind.i64 (i + 1) = i + 1 := w64 _ (by omega)
    have h2 : IntKind.wrap IntKind.i64 (i + 1 + 1) = i + 1 + 1 := w64 _ (by omega)
    have e : i + 1 + (n : Int) = i + ((n + 1 : Nat) : Int) := by omega
    refine EvXL.step (stepXS_ok (kTP_ok [] o1 o1) (sh_q1 x port o1 w i (i + 1)) ?_) (runA1 x port o1 w n (i + 1) (by omega) (by omega) (by omega) (by rw [e]; exact h))
    repeat' (first | exact allNil | refine allCons ?_ ?_ | (with_reducible refine allRp _ ?_ ?_))
    all_goals first
      | exact rfl
      | (simp only [wn, h1, h2]; first | exact rfl | exact decide_eq_false (by omega) | exact decide_eq_true (by omega))
      | (simp only [wn, h1, h2, SameO, pq10, pq15, pq16, pq17, pq19, pq21, pq23, pq24, pq25, pq26, pq27, pq29, pq131, pq132]; done)
      | (simp [wn, h1, h2]; omega)
      | (simp [wn, h1, h2]; done)

theorem runA2 (x port o1 w : Int) {F : GoalX} : ∀ (n : Nat) (i : Int), 3 ≤ i → i + n ≤ 6 → i + n ≤ w → EvXL Tryz.prog 0 (shL Tryz.prog) ((gA x port o1 w (i + n) (i + n + 1) 3 7 8 16 32 64 128 256 512 0 0 0).st 0) (.exit 0) (F.st 0) → EvXL Tryz.prog 0 (shL Tryz.prog) ((gA x port o1 w i (i + 1) 3 7 8 16 32 64 128 256 512 0 0 0).st 0) (.exit 0) (F.st 0)
  | 0, i, _, _, _, h => by simpa using h
  | n + 1, i, a, b, c, h => by
    have h1 : IntKind.wrap IntKind.i64 (i + 1) = i + 1 := w64 _ (by omega)
    have h2 : IntKind.wrap IntKind.i64 (i + 1 + 1) = i + 1 + 1 := w64 _ (by omega)
    have e : i + 1 + (n : Int) = i + ((n + 1 : Nat) : Int) := by omega
    refine EvXL.step (stepXS_ok (kTP_ok [] o1 o1) (sh_q2 x port o1 w i (i + 1)) ?_) (runA2 x port o1 w n (i + 1) (by omega) (by omega) (by omega) (by rw [e]; exact h))
    repeat' (first | exact allNil | refine allCons ?_ ?_ | (with_reducible refine allRp _ ?_ ?_))
    all_goals first
      | exact rfl
      | (simp only [wn, h1, h2]; first | exact rfl | exact decide_eq_false (by omega) | exact decide_eq_true (by omega))
      | (simp only [wn, h1, h2, SameO, pq10, pq15, pq16, pq17, pq19, pq21, pq23, pq24, pq25, pq26, pq27, pq29, pq131, pq132]; done)
      | (simp [wn, h1, h2]; omega)
      | (simp [wn, h1, h2]; done)

theorem runA3 (x port o1 w : Int) {F : GoalX} : ∀ (n : Nat) (i : Int), 7 ≤ i → i + n ≤ 14 → i + n ≤ w → EvXL Tryz.prog 0 (shL Tryz.prog) ((gA x port o1 w (i + n) (i + n + 1) 3 6 16 32 64 128 256 512 0 0 0 0).st 0) (.exit 0) (F.st 0) → EvXL Tryz.prog 0 (shL Tryz.prog) ((gA x port o1 w i (i + 1) 3 6 16 32 64 128 256 512 0 0 0 0).st 0) (.exit 0) (F.st 0)
  | 0, i, _, _, _, h => by simpa using h
  | n + 1, i, a, b, c, h => by
    have h1 : IntKind.wrap IntKind.i64 (i + 1) = i + 1 := w64 _ (by omega)
    have h2 : IntKind.wrap IntKind.i64 (i + 1 + 1) = i + 1 + 1 := w64 _ (by omega)
    have e : i + 1 + (n : Int) = i + ((n + 1 : Nat) : Int) := by omega
    refine EvXL.step (stepXS_ok (kTP_ok [] o1 o1) (sh_q3 x port o1 w i (i + 1)) ?_) (runA3 x port o1 w n (i + 1) (by omega) (by omega) (by omega) (by rw [e]; exact h))
    repeat' (first | exact allNil | refine allCons ?_ ?_ | (with_reducible refine allRp _ ?_ ?_))
    all_goals first
      | exact rfl
      | (simp only [wn, h1, h2]; first | exact rfl | exact decide_eq_false (by omega) | exact decide_eq_true (by omega))
      | (simp only [wn, h1, h2, SameO, pq10, pq15, pq16, pq17, pq19, pq21, pq23, pq24, pq25, pq26, pq27, pq29, pq131, pq132]; done)
      | (simp [wn, h1, h2]; omega)
      | (simp [wn, h1, h2]; done)

theorem runA4 (x port o1 w : Int) {F : GoalX} : ∀ (n : Nat) (i : Int), 15 ≤ i → i + n ≤ 30 → i + n ≤ w → EvXL Tryz.prog 0 (shL Tryz.prog) ((gA x port o1 w (i + n) (i + n + 1) 3 5 32 64 128 256 512 0 0 0 0 0).st 0) (.exit 0) (F.st 0) → EvXL Tryz.prog 0 (shL Tryz.prog) ((gA x port o1 w i (i + 1) 3 5 32 64 128 256 512 0 0 0 0 0).st 0) (.exit 0) (F.st 0)
  | 0, i, _, _, _, h => by simpa using h
  | n + 1, i, a, b, c, h => by
    have h1 : IntKind.wrap IntKind.i64 (i + 1) = i + 1 := w64 _ (by omega)
    have h2 : IntKind.wrap IntKind.i64 (i + 1 + 1) = i + 1 + 1 := w64 _ (by omega)
    have e : i + 1 + (n : Int) = i + ((n + 1 : Nat) : Int) := by omega
    refine EvXL.step (stepXS_ok (kTP_ok [] o1 o1) (sh_q4 x port o1 w i (i + 1)) ?_) (runA4 x port o1 w n (i + 1) (by omega) (by omega) (by omega) (by rw [e]; exact h))
    repeat' (first | exact allNil | refine allCons ?_ ?_ | (with_reducible refine allRp _ ?_ ?_))
    all_goals first
      | exact rfl
      | (simp only [wn, h1, h2]; first | exact rfl | exact decide_eq_false (by omega) | exact decide_eq_true (by omega))
      | (simp only [wn, h1, h2, SameO, pq10, pq15, pq16, pq17, pq19, pq21, pq23, pq24, pq25, pq26, pq27, pq29, pq131, pq132]; done)
      | (simp [wn, h1, h2]; omega)
      | (simp [wn, h1, h2]; done)

theorem runA5 (x port o1 w : Int) {F : GoalX} : ∀ (n : Nat) (i : Int), 31 ≤ i → i + n ≤ 62 → i + n ≤ w → EvXL Tryz.prog 0 (shL Tryz.prog) ((gA x port o1 w (i + n) (i + n + 1) 3 4 64 128 256 512 0 0 0 0 0 0).st 0) (.exit 0) (F.st 0) → EvXL Tryz.prog 0 (shL Tryz.prog) ((gA x port o1 w i (i + 1) 3 4 64 128 256 512 0 0 0 0 0 0).st 0) (.exit 0) (F.st 0)
  | 0, i, _, _, _, h => by simpa using h
  | n + 1, i, a, b, c, h => by
    have h1 : IntKind.wrap IntKind.i64 (i + 1) = i + 1 := w64 _ (by omega)
    have h2 : IntKind.wrap IntKind.i64 (i + 1 + 1) = i + 1 + 1 := w64 _ (by omega)
    have e : i + 1 + (n : Int) = i + ((n + 1 : Nat) : Int) := by omega
    refine EvXL.step (stepXS_ok (kTP_ok [] o1 o1) (sh_q5 x port o1 w i (i + 1)) ?_) (runA5 x port o1 w n (i + 1) (by omega) (by omega) (by omega) (by rw [e]; exact h))
    repeat' (first | exact allNil | refine allCons ?_ ?_ | (with_reducible refine allRp _ ?_ ?_))
    all_goals first
      | exact rfl
      | (simp only [wn, h1, h2]; first | exact rfl | exact decide_eq_false (by omega) | exact decide_eq_true (by omega))
      | (simp only [wn, h1, h2, SameO, pq10, pq15, pq16, pq17, pq19, pq21, pq23, pq24, pq25, pq26, pq27, pq29, pq131, pq132]; done)
      | (simp [wn, h1, h2]; omega)
      | (simp [wn, h1, h2]; done)

theorem runA6 (x port o1 w : Int) {F : GoalX} : ∀ (n : Nat) (i : Int), 63 ≤ i → i + n ≤ 119 → i + n ≤ w → EvXL Tryz.prog 0 (shL Tryz.prog) ((gA x port o1 w (i + n) (i + n + 1) 3 3 128 256 512 0 0 0 0 0 0 0).st 0) (.exit 0) (F.st 0) → EvXL Tryz.prog 0 (shL Tryz.prog) ((gA x port o1 w i (i + 1) 3 3 128 256 512 0 0 0 0 0 0 0).st 0) (.exit 0) (F.st 0)
  | 0, i, _, _, _, h => by simpa using h
  | n + 1, i, a, b, c, h => by
    have h1 : IntKind.wrap IntKind.i64 (i + 1) = i + 1 := w64 _ (by omega)
    have h2 : IntKind.wrap IntKind.i64 (i + 1 + 1) = i + 1 + 1 := w64 _ (by omega)
    have e : i + 1 + (n : Int) = i + ((n + 1 : Nat) : Int) := by omega
    refine EvXL.step (stepXS_ok (kTP_ok [] o1 o1) (sh_q6 x port o1 w i (i + 1)) ?_) (runA6 x port o1 w n (i + 1) (by omega) (by omega) (by omega) (by rw [e]; exact h))
    repeat' (first | exact allNil | refine allCons ?_ ?_ | (with_reducible refine allRp _ ?_ ?_))
    all_goals first
      | exact rfl
      | (simp only [wn, h1, h2]; first | exact rfl | exact decide_eq_false (by omega) | exact decide_eq_true (by omega))
      | (simp only [wn, h1, h2, SameO, pq10, pq15, pq16, pq17, pq19, pq21, pq23, pq24, pq25, pq26, pq27, pq29, pq131, pq132]; done)
      | (simp [wn, h1, h2]; omega)
      | (simp [wn, h1, h2]; done)

theorem runD6 (o1 w : Int) {F : GoalX} : ∀ (n : Nat) (i : Int), 120 ≤ i → i + n ≤ 126 → i + n ≤ w → EvXL Tryz.prog 0 (shL Tryz.prog) ((gD o1 w (i + n) (i + n + 1) 3 3 128 256 512 0 0 0 0 0 0 0).st 0) (.exit 0) (F.st 0) → EvXL Tryz.prog 0 (shL Tryz.prog) ((gD o1 w i (i + 1) 3 3 128 256 512 0 0 0 0 0 0 0).st 0) (.exit 0) (F.st 0)
  | 0, i, _, _, _, h => by simpa using h
  | n + 1, i, a, b, c, h => by
    have h1 : IntKind.wrap IntKind.i64 (i + 1) = i + 1 := w64 _ (by omega)
    have h2 : IntKind.wrap IntKind.i64 (i + 1 + 1) = i + 1 + 1 := w64 _ (by omega)
    have e : i + 1 + (n : Int) = i + ((n + 1 : Nat) : Int) := by omega
    refine EvXL.step (stepXS_ok (kTP_ok [] o1 o1) (sh_d6 o1 w i (i + 1)) ?_) (runD6 o1 w n (i + 1) (by omega) (by omega) (by omega) (by rw [e]; exact h))
    repeat' (first | exact allNil | refine allCons ?_ ?_ | (with_reducible refine allRp _ ?_ ?_))
    all_goals first
      | exact rfl
      | (simp only [wn, h1, h2]; first | exact rfl | exact decide_eq_false (by omega) | exact decide_eq_true (by omega))
      | (simp only [wn, h1, h2, SameO, pq10, pq15, pq16, pq17, pq19, pq21, pq23, pq24, pq25, pq26, pq27, pq29, pq131, pq132]; done)
      | (simp [wn, h1, h2]; omega)
      | (simp [wn, h1, h2]; done)

theorem runD7 (o1 w : Int) {F : GoalX} : ∀ (n : Nat) (i : Int), 127 ≤ i → i + n ≤ 200 → i + n ≤ w → EvXL Tryz.prog 0 (shL Tryz.prog) ((gD o1 w (i + n) (i + n + 1) 3 2 256 512 0 0 0 0 0 0 0 0).st 0) (.exit 0) (F.st 0) → EvXL Tryz.prog 0 (shL Tryz.prog) ((gD o1 w i (i + 1) 3 2 256 512 0 0 0 0 0 0 0 0).st 0) (.exit 0) (F.st 0)
  | 0, i, _, _, _, h => by simpa using h
  | n + 1, i, a, b, c, h => by
    have h1 : IntKind.wrap IntKind.i64 (i + 1) = i + 1 := w64 _ (by omega)
    have h2 : IntKind.wrap IntKind.i64 (i + 1 + 1) = i + 1 + 1 := w64 _ (by omega)
    have e : i + 1 + (n : Int) = i + ((n + 1 : Nat) : Int) := by omega
    refine EvXL.step (stepXS_ok (kTP_ok [] o1 o1) (sh_d7 o1 w i (i + 1)) ?_) (runD7 o1 w n (i + 1) (by omega) (by omega) (by omega) (by rw [e]; exact h))
    repeat' (first | exact allNil | refine allCons ?_ ?_ | (with_reducible refine allRp _ ?_ ?_))
    all_goals first
      | exact rfl
      | (simp only [wn, h1, h2]; first | exact rfl | exact decide_eq_false (by omega) | exact decide_eq_true (by omega))
      | (simp only [wn, h1, h2, SameO, pq10, pq15, pq16, pq17, pq19, pq21, pq23, pq24, pq25, pq26, pq27, pq29, pq131, pq132]; done)
      | (simp [wn, h1, h2]; omega)
      | (simp [wn, h1, h2]; done)
theorem evA0 (x port o1 w : Int) {F : GoalX} (hw : 0 < w) (h : EvXL Tryz.prog 0 (shL Tryz.prog) ((gA x port o1 w 1 2 3 8 4 8 16 32 64 128 256 512 0 0).st 0) (.exit 0) (F.st 0)) : EvXL Tryz.prog 0 (shL Tryz.prog) ((gA x port o1 w 0 1 5 10 1 2 4 8 16 32 64 128 256 512).st 0) (.exit 0) (F.st 0) := by
  have h1 : IntKind.wrap IntKind.i64 (0 + 1) = 0 + 1 := w64 _ (by omega)
  have h2 : IntKind.wrap IntKind.i64 (0 + 1 + 1) = 0 + 1 + 1 := w64 _ (by omega)
  refine EvXL.step (stepXS_ok (kTP_ok [] o1 o1) (sh_e0 x port o1 w) ?_) h
  repeat' (first | exact allNil | refine allCons ?_ ?_ | (with_reducible refine allRp _ ?_ ?_))
  all_goals first
    | exact rfl
    | (simp only [wn, h1, h2]; first | exact rfl | exact decide_eq_false (by omega) | exact decide_eq_true (by omega))
    | (simp only [wn, h1, h2, SameO, pq10, pq15, pq16, pq17, pq19, pq21, pq23, pq24, pq25, pq26, pq27, pq29, pq131, pq132]; done)
    | (simp [wn, h1, h2]; omega)
    | (simp [wn, h1, h2]; done)
theorem evA1 (x port o1 w : Int) {F : GoalX} (hw : 2 < w) (h : EvXL Tryz.prog 0 (shL Tryz.prog) ((gA x port o1 w 3 4 3 7 8 16 32 64 128 256 512 0 0 0).st 0) (.exit 0) (F.st 0)) : EvXL Tryz.prog 0 (shL Tryz.prog) ((gA x port o1 w 2 3 3 8 4 8 16 32 64 128 256 512 0 0).st 0) (.exit 0) (F.st 0) := by
  have h1 : IntKind.wrap IntKind.i64 (2 + 1) = 2 + 1 := w64 _ (by omega)
  have h2 : IntKind.wrap IntKind.i64 (2 + 1 + 1) = 2 + 1 + 1 := w64 _ (by omega)
  refine EvXL.step (stepXS_ok (kTP_ok [] o1 o1) (sh_e1 x port o1 w) ?_) h
  repeat' (first | exact allNil | refine allCons ?_ ?_ | (with_reducible refine allRp _ ?_ ?_))
  all_goals first
    | exact rfl
    | (simp only [wn, h1, h2]; first | exact rfl | exact decide_eq_false (by omega) | exact decide_eq_true (by omega))
    | (simp only [wn, h1, h2, SameO, pq10, pq15, pq16, pq17, pq19, pq21, pq23, pq24, pq25, pq26, pq27, pq29, pq131, pq132]; done)
    | (simp [wn, h1, h2]; omega)
    | (simp [wn, h1, h2]; done)
theorem evA2 (x port o1 w : Int) {F : GoalX} (hw : 6 < w) (h : EvXL Tryz.prog 0 (shL Tryz.prog) ((gA x port o1 w 7 8 3 6 16 32 64 128 256 512 0 0 0 0).st 0) (.exit 0) (F.st 0)) : EvXL Tryz.prog 0 (shL Tryz.prog) ((gA x port o1 w 6 7 3 7 8 16 32 64 128 256 512 0 0 0).st 0) (.exit 0) (F.st 0) := by
  have h1 : IntKind.wrap IntKind.i64 (6 + 1) = 6 + 1 := w64 _ (by omega)
  have h2 : IntKind.wrap IntKind.i64 (6 + 1 + 1) = 6 + 1 + 1 := w64 _ (by omega)
  refine EvXL.step (stepXS_ok (kTP_ok [] o1 o1) (sh_e2 x port o1 w) ?_) h
  repeat' (first | exact allNil | refine allCons ?_ ?_ | (with_reducible refine allRp _ ?_ ?_))
  all_goals first
    | exact rfl
    | (simp only [wn, h1, h2]; first | exact rfl | exact decide_eq_false (by omega) | exact decide_eq_true (by omega))
    | (simp only [wn, h1, h2, SameO, pq10, pq15, pq16, pq17, pq19, pq21, pq23, pq24, pq25, pq26, pq27, pq29, pq131, pq132]; done)
    | (simp [wn, h1, h2]; omega)
    | (simp [wn, h1, h2]; done)
theorem evA3 (x port o1 w : Int) {F : GoalX} (hw : 14 < w) (h : EvXL Tryz.prog 0 (shL Tryz.prog) ((gA x port o1 w 15 16 3 5 32 64 128 256 512 0 0 0 0 0).st 0) (.exit 0) (F.st 0)) : EvXL Tryz.prog 0 (shL Tryz.prog) ((gA x port o1 w 14 15 3 6 16 32 64 128 256 512 0 0 0 0).st 0) (.exit 0) (F.st 0) := by
  have h1 : IntKind.wrap IntKind.i64 (14 + 1) = 14 + 1 := w64 _ (by omega)
  have h2 : IntKind.wrap IntKind.i64 (14 + 1 + 1) = 14 + 1 + 1 := w64 _ (by omega)
  refine EvXL.step (stepXS_ok (kTP_ok [] o1 o1) (sh_e3 x port o1 w) ?_) h
  repeat' (first | exact allNil | refine allCons ?_ ?_ | (with_reducible refine allRp _ ?_ ?_))
  all_goals first
    | exact rfl
    | (simp only [wn, h1, h2]; first | exact rfl | exact decide_eq_false (by omega) | exact decide_eq_true (by omega))
    | (simp only [wn, h1, h2, SameO, pq10, pq15, pq16, pq17, pq19, pq21, pq23, pq24, pq25, pq26, pq27, pq29, pq131, pq132]; done)
    | (simp [wn, h1, h2]; omega)
    | (simp [wn, h1, h2]; done)
theorem evA4 (x port o1 w : Int) {F : GoalX} (hw : 30 < w) (h : EvXL Tryz.prog 0 (shL Tryz.prog) ((gA x port o1 w 31 32 3 4 64 128 256 512 0 0 0 0 0 0).st 0) (.exit 0) (F.st 0)) : EvXL Tryz.prog 0 (shL Tryz.prog) ((gA x port o1 w 30 31 3 5 32 64 128 256 512 0 0 0 0 0).st 0) (.exit 0) (F.st 0) := by
  have h1 : IntKind.wrap IntKind.i64 (30 + 1) = 30 + 1 := w64 _ (by omega)
  have h2 : IntKind.wrap IntKind.i64 (30 + 1 + 1) = 30 + 1 + 1 := w64 _ (by omega)
  refine EvXL.step (stepXS_ok (kTP_ok [] o1 o1) (sh_e4 x port o1 w) ?_) h
  repeat' (first | exact allNil | refine allCons ?_ ?_ | (with_reducible refine allRp _ ?_ ?_))
  all_goals first
    | exact rfl
    | (simp only [wn, h1, h2]; first | exact rfl | exact decide_eq_false (by omega) | exact decide_eq_true (by omega))
    | (simp only [wn, h1, h2, SameO, pq10, pq15, pq16, pq17, pq19, pq21, pq23, pq24, pq25, pq26, pq27, pq29, pq131, pq132]; done)
    | (simp [wn, h1, h2]; omega)
    | (simp [wn, h1, h2]; done)
theorem evA5 (x port o1 w : Int) {F : GoalX} (hw : 62 < w) (h : EvXL Tryz.prog 0 (shL Tryz.prog) ((gA x port o1 w 63 64 3 3 128 256 512 0 0 0 0 0 0 0).st 0) (.exit 0) (F.st 0)) : EvXL Tryz.prog 0 (shL Tryz.prog) ((gA x port o1 w 62 63 3 4 64 128 256 512 0 0 0 0 0 0).st 0) (.exit 0) (F.st 0) := by
  have h1 : IntKind.wrap IntKind.i64 (62 + 1) = 62 + 1 := w64 _ (by omega)
  have h2 : IntKind.wrap IntKind.i64 (62 + 1 + 1) = 62 + 1 + 1 := w64 _ (by omega)
  refine EvXL.step (stepXS_ok (kTP_ok [] o1 o1) (sh_e5 x port o1 w) ?_) h
  repeat' (first | exact allNil | refine allCons ?_ ?_ | (with_reducible refine allRp _ ?_ ?_))
  all_goals first
    | exact rfl
    | (simp only [wn, h1, h2]; first | exact rfl | exact decide_eq_false (by omega) | exact decide_eq_true (by omega))
    | (simp only [wn, h1, h2, SameO, pq10, pq15, pq16, pq17, pq19, pq21, pq23, pq24, pq25, pq26, pq27, pq29, pq131, pq132]; done)
    | (simp [wn, h1, h2]; omega)
    | (simp [wn, h1, h2]; done)
theorem evDie (x port o1 w : Int) {F : GoalX} (hw : 119 < w) (h : EvXL Tryz.prog 0 (shL Tryz.prog) ((gD o1 w 120 121 3 3 128 256 512 0 0 0 0 0 0 0).st 0) (.exit 0) (F.st 0)) : EvXL Tryz.prog 0 (shL Tryz.prog) ((gA x port o1 w 119 120 3 3 128 256 512 0 0 0 0 0 0 0).st 0) (.exit 0) (F.st 0) := by
  have h1 : IntKind.wrap IntKind.i64 (119 + 1) = 119 + 1 := w64 _ (by omega)
  have h2 : IntKind.wrap IntKind.i64 (119 + 1 + 1) = 119 + 1 + 1 := w64 _ (by omega)
  refine EvXL.step (stepXS_ok (kTP_ok [] o1 o1) (sh_die x port o1 w) ?_) h
  repeat' (first | exact allNil | refine allCons ?_ ?_ | (with_reducible refine allRp _ ?_ ?_))
  all_goals first
    | exact rfl
    | (simp only [wn, h1, h2]; first | exact rfl | exact decide_eq_false (by omega) | exact decide_eq_true (by omega))
    | (simp only [wn, h1, h2, SameO, pq10, pq15, pq16, pq17, pq19, pq21, pq23, pq24, pq25, pq26, pq27, pq29, pq131, pq132]; done)
    | (simp [wn, h1, h2]; omega)
    | (simp [wn, h1, h2]; done)
theorem evF (o1 w : Int) {F : GoalX} (hw : 126 < w) (h : EvXL Tryz.prog 0 (shL Tryz.prog) ((gD o1 w 127 128 3 2 256 512 0 0 0 0 0 0 0 0).st 0) (.exit 0) (F.st 0)) : EvXL Tryz.prog 0 (shL Tryz.prog) ((gD o1 w 126 127 3 3 128 256 512 0 0 0 0 0 0 0).st 0) (.exit 0) (F.st 0) := by
  have h1 : IntKind.wrap IntKind.i64 (126 + 1) = 126 + 1 := w64 _ (by omega)
  have h2 : IntKind.wrap IntKind.i64 (126 + 1 + 1) = 126 + 1 + 1 := w64 _ (by omega)
  refine EvXL.step (stepXS_ok (kTP_ok [] o1 o1) (sh_f o1 w) ?_) h
  repeat' (first | exact allNil | refine allCons ?_ ?_ | (with_reducible refine allRp _ ?_ ?_))
  all_goals first
    | exact rfl
    | (simp only [wn, h1, h2]; first | exact rfl | exact decide_eq_false (by omega) | exact decide_eq_true (by omega))
    | (simp only [wn, h1, h2, SameO, pq10, pq15, pq16, pq17, pq19, pq21, pq23, pq24, pq25, pq26, pq27, pq29, pq131, pq132]; done)
    | (simp [wn, h1, h2]; omega)
    | (simp [wn, h1, h2]; done)
theorem lastA (x port o1 i nw dr : Int) (m : Nat) (e0 e1 e2 e3 e4 e5 e6 e7 e8 e9 : Int) : EvXL Tryz.prog 0 (shL Tryz.prog) ((gA x port o1 i i nw dr m e0 e1 e2 e3 e4 e5 e6 e7 e8 e9).st 0) (.exit 0) ((gA x port o1 i i nw dr m e0 e1 e2 e3 e4 e5 e6 e7 e8 e9).st 0) := by
  refine EvXL.last (stepXS_ok (kTP_ok [] o1 o1) (sh_xa x port o1 i i nw dr m e0 e1 e2 e3 e4 e5 e6 e7 e8 e9) ?_) (by simp)
  repeat' (first | exact allNil | refine allCons ?_ ?_ | (with_reducible refine allRp _ ?_ ?_))
  all_goals first
    | exact rfl
    | exact decide_eq_false (by omega)
theorem lastD (o1 i nw dr : Int) (m : Nat) (e0 e1 e2 e3 e4 e5 e6 e7 e8 e9 : Int) : EvXL Tryz.prog 0 (shL Tryz.prog) ((gD o1 i i nw dr m e0 e1 e2 e3 e4 e5 e6 e7 e8 e9).st 0) (.exit 0) ((gD o1 i i nw dr m e0 e1 e2 e3 e4 e5 e6 e7 e8 e9).st 0) := by
  refine EvXL.last (stepXS_ok (kTP_ok [] o1 o1) (sh_xd o1 i i nw dr m e0 e1 e2 e3 e4 e5 e6 e7 e8 e9) ?_) (by simp)
  repeat' (first | exact allNil | refine allCons ?_ ?_ | (with_reducible refine allRp _ ?_ ?_))
  all_goals first
    | exact rfl
    | exact decide_eq_false (by omega)

/-- what is there at the end -/
def endA (x port o1 w : Int) (G : GoalX) : Prop := ∃ (dr : Int) (m : Nat) (e0 e1 e2 e3 e4 e5 e6 e7 e8 e9 : Int), EvXL Tryz.prog 0 (shL Tryz.prog) (G.st 0) (.exit 0) ((gA x port o1 w w (w + 1) dr m e0 e1 e2 e3 e4 e5 e6 e7 e8 e9).st 0)
def endD (o1 w : Int) (G : GoalX) : Prop := ∃ (dr : Int) (m : Nat) (e0 e1 e2 e3 e4 e5 e6 e7 e8 e9 : Int), EvXL Tryz.prog 0 (shL Tryz.prog) (G.st 0) (.exit 0) ((gD o1 w w (w + 1) dr m e0 e1 e2 e3 e4 e5 e6 e7 e8 e9).st 0)
theorem D7 (o1 w : Int) (hw : 127 ≤ w) (h2 : w ≤ 200) : endD o1 w (gD o1 w 127 128 3 2 256 512 0 0 0 0 0 0 0 0) := by
    have e : (127 : Int) + ((w - 127).toNat : Int) = w := by omega
    refine ⟨3, 2, 256, 512, 0, 0, 0, 0, 0, 0, 0, 0, ?_⟩
    have h := lastD o1 w (w + 1) 3 2 256 512 0 0 0 0 0 0 0 0
    exact runD7 o1 w (w - 127).toNat 127 (by omega) (by omega) (by omega) (by rw [e]; exact h)
theorem D6 (o1 w : Int) (hw : 120 ≤ w) (h2 : w ≤ 200) : endD o1 w (gD o1 w 120 121 3 3 128 256 512 0 0 0 0 0 0 0) := by
  by_cases hc : w ≤ 126
  · skip
    have e : (120 : Int) + ((w - 120).toNat : Int) = w := by omega
    refine ⟨3, 3, 128, 256, 512, 0, 0, 0, 0, 0, 0, 0, ?_⟩
    have h := lastD o1 w (w + 1) 3 3 128 256 512 0 0 0 0 0 0 0
    exact runD6 o1 w (w - 120).toNat 120 (by omega) (by omega) (by omega) (by rw [e]; exact h)
  · obtain ⟨dr, m, e0, e1, e2, e3, e4, e5, e6, e7, e8, e9, h⟩ := D7 o1 w (by omega) h2
    exact ⟨dr, m, e0, e1, e2, e3, e4, e5, e6, e7, e8, e9, runD6 o1 w 6 120 (by omega) (by omega) (by omega) (evF o1 w (by omega) h)⟩
theorem TA6 (x port o1 w : Int) (hw : 63 ≤ w) (h2 : w < 120) : endA x port o1 w (gA x port o1 w 63 64 3 3 128 256 512 0 0 0 0 0 0 0) := by
    have e : (63 : Int) + ((w - 63).toNat : Int) = w := by omega
    refine ⟨3, 3, 128, 256, 512, 0, 0, 0, 0, 0, 0, 0, ?_⟩
    have h := lastA x port o1 w (w + 1) 3 3 128 256 512 0 0 0 0 0 0 0
    exact runA6 x port o1 w (w - 63).toNat 63 (by omega) (by omega) (by omega) (by rw [e]; exact h)
theorem TA5 (x port o1 w : Int) (hw : 31 ≤ w) (h2 : w < 120) : endA x port o1 w (gA x port o1 w 31 32 3 4 64 128 256 512 0 0 0 0 0 0) := by
  by_cases hc : w ≤ 62
  · skip
    have e : (31 : Int) + ((w - 31).toNat : Int) = w := by omega
    refine ⟨3, 4, 64, 128, 256, 512, 0, 0, 0, 0, 0, 0, ?_⟩
    have h := lastA x port o1 w (w + 1) 3 4 64 128 256 512 0 0 0 0 0 0
    exact runA5 x port o1 w (w - 31).toNat 31 (by omega) (by omega) (by omega) (by rw [e]; exact h)
  · obtain ⟨dr, m, e0, e1, e2, e3, e4, e5, e6, e7, e8, e9, h⟩ := TA6 x port o1 w (by omega) h2
    exact ⟨dr, m, e0, e1, e2, e3, e4, e5, e6, e7, e8, e9, runA5 x port o1 w 31 31 (by omega) (by omega) (by omega) (evA5 x port o1 w (by omega) h)⟩
theorem TA4 (x port o1 w : Int) (hw : 15 ≤ w) (h2 : w < 120) : endA x port o1 w (gA x port o1 w 15 16 3 5 32 64 128 256 512 0 0 0 0 0) := by
  by_cases hc : w ≤ 30
  · skip
    have e : (15 : Int) + ((w - 15).toNat : Int) = w := by omega
    refine ⟨3, 5, 32, 64, 128, 256, 512, 0, 0, 0, 0, 0, ?_⟩
    have h := lastA x port o1 w (w + 1) 3 5 32 64 128 256 512 0 0 0 0 0
    exact runA4 x port o1 w (w - 15).toNat 15 (by omega) (by omega) (by omega) (by rw [e]; exact h)
  · obtain ⟨dr, m, e0, e1, e2, e3, e4, e5, e6, e7, e8, e9, h⟩ := TA5 x port o1 w (by omega) h2
    exact ⟨dr, m, e0, e1, e2, e3, e4, e5, e6, e7, e8, e9, runA4 x port o1 w 15 15 (by omega) (by omega) (by omega) (evA4 x port o1 w (by omega) h)⟩
theorem TA3 (x port o1 w : Int) (hw : 7 ≤ w) (h2 : w < 120) : endA x port o1 w (gA x port o1 w 7 8 3 6 16 32 64 128 256 512 0 0 0 0) := by
  by_cases hc : w ≤ 14
  · skip
    have e : (7 : Int) + ((w - 7).toNat : Int) = w := by omega
    refine ⟨3, 6, 16, 32, 64, 128, 256, 512, 0, 0, 0, 0, ?_⟩
    have h := lastA x port o1 w (w + 1) 3 6 16 32 64 128 256 512 0 0 0 0
    exact runA3 x port o1 w (w - 7).toNat 7 (by omega) (by omega) (by omega) (by rw [e]; exact h)
  · obtain ⟨dr, m, e0, e1, e2, e3, e4, e5, e6, e7, e8, e9, h⟩ := TA4 x port o1 w (by omega) h2
    exact ⟨dr, m, e0, e1, e2, e3, e4, e5, e6, e7, e8, e9, runA3 x port o1 w 7 7 (by omega) (by omega) (by omega) (evA3 x port o1 w (by omega) h)⟩
theorem TA2 (x port o1 w : Int) (hw : 3 ≤ w) (h2 : w < 120) : endA x port o1 w (gA x port o1 w 3 4 3 7 8 16 32 64 128 256 512 0 0 0) := by
  by_cases hc : w ≤ 6
  · skip
    have e : (3 : Int) + ((w - 3).toNat : Int) = w := by omega
    refine ⟨3, 7, 8, 16, 32, 64, 128, 256, 512, 0, 0, 0, ?_⟩
    have h := lastA x port o1 w (w + 1) 3 7 8 16 32 64 128 256 512 0 0 0
    exact runA2 x port o1 w (w - 3).toNat 3 (by omega) (by omega) (by omega) (by rw [e]; exact h)
  · obtain ⟨dr, m, e0, e1, e2, e3, e4, e5, e6, e7, e8, e9, h⟩ := TA3 x port o1 w (by omega) h2
    exact ⟨dr, m, e0, e1, e2, e3, e4, e5, e6, e7, e8, e9, runA2 x port o1 w 3 3 (by omega) (by omega) (by omega) (evA2 x port o1 w (by omega) h)⟩
theorem TA1 (x port o1 w : Int) (hw : 1 ≤ w) (h2 : w < 120) : endA x port o1 w (gA x port o1 w 1 2 3 8 4 8 16 32 64 128 256 512 0 0) := by
  by_cases hc : w ≤ 2
  · skip
    have e : (1 : Int) + ((w - 1).toNat : Int) = w := by omega
    refine ⟨3, 8, 4, 8, 16, 32, 64, 128, 256, 512, 0, 0, ?_⟩
    have h := lastA x port o1 w (w + 1) 3 8 4 8 16 32 64 128 256 512 0 0
    exact runA1 x port o1 w (w - 1).toNat 1 (by omega) (by omega) (by omega) (by rw [e]; exact h)
  · obtain ⟨dr, m, e0, e1, e2, e3, e4, e5, e6, e7, e8, e9, h⟩ := TA2 x port o1 w (by omega) h2
    exact ⟨dr, m, e0, e1, e2, e3, e4, e5, e6, e7, e8, e9, runA1 x port o1 w 1 1 (by omega) (by omega) (by omega) (evA1 x port o1 w (by omega) h)⟩
theorem TD6 (x port o1 w : Int) (hw : 120 ≤ w) (h2 : w ≤ 200) : endD o1 w (gA x port o1 w 63 64 3 3 128 256 512 0 0 0 0 0 0 0) := by
  obtain ⟨dr, m, e0, e1, e2, e3, e4, e5, e6, e7, e8, e9, h⟩ := D6 o1 w (by omega) h2
  exact ⟨dr, m, e0, e1, e2, e3, e4, e5, e6, e7, e8, e9, runA6 x port o1 w 56 63 (by omega) (by omega) (by omega) (evDie x port o1 w (by omega) h)⟩
theorem TD5 (x port o1 w : Int) (hw : 120 ≤ w) (h2 : w ≤ 200) : endD o1 w (gA x port o1 w 31 32 3 4 64 128 256 512 0 0 0 0 0 0) := by
  obtain ⟨dr, m, e0, e1, e2, e3, e4, e5, e6, e7, e8, e9, h⟩ := TD6 x port o1 w hw h2
  exact ⟨dr, m, e0, e1, e2, e3, e4, e5, e6, e7, e8, e9, runA5 x port o1 w 31 31 (by omega) (by omega) (by omega) (evA5 x port o1 w (by omega) h)⟩
theorem TD4 (x port o1 w : Int) (hw : 120 ≤ w) (h2 : w ≤ 200) : endD o1 w (gA x port o1 w 15 16 3 5 32 64 128 256 512 0 0 0 0 0) := by
  obtain ⟨dr, m, e0, e1, e2, e3, e4, e5, e6, e7, e8, e9, h⟩ := TD5 x port o1 w hw h2
  exact ⟨dr, m, e0, e1, e2, e3, e4, e5, e6, e7, e8, e9, runA4 x port o1 w 15 15 (by omega) (by omega) (by omega) (evA4 x port o1 w (by omega) h)⟩
theorem TD3 (x port o1 w : Int) (hw : 120 ≤ w) (h2 : w ≤ 200) : endD o1 w (gA x port o1 w 7 8 3 6 16 32 64 128 256 512 0 0 0 0) := by
  obtain ⟨dr, m, e0, e1, e2, e3, e4, e5, e6, e7, e8, e9, h⟩ := TD4 x port o1 w hw h2
  exact ⟨dr, m, e0, e1, e2, e3, e4, e5, e6, e7, e8, e9, runA3 x port o1 w 7 7 (by omega) (by omega) (by omega) (evA3 x port o1 w (by omega) h)⟩
theorem TD2 (x port o1 w : Int) (hw : 120 ≤ w) (h2 : w ≤ 200) : endD o1 w (gA x port o1 w 3 4 3 7 8 16 32 64 128 256 512 0 0 0) := by
  obtain ⟨dr, m, e0, e1, e2, e3, e4, e5, e6, e7, e8, e9, h⟩ := TD3 x port o1 w hw h2
  exact ⟨dr, m, e0, e1, e2, e3, e4, e5, e6, e7, e8, e9, runA2 x port o1 w 3 3 (by omega) (by omega) (by omega) (evA2 x port o1 w (by omega) h)⟩
theorem TD1 (x port o1 w : Int) (hw : 120 ≤ w) (h2 : w ≤ 200) : endD o1 w (gA x port o1 w 1 2 3 8 4 8 16 32 64 128 256 512 0 0) := by
  obtain ⟨dr, m, e0, e1, e2, e3, e4, e5, e6, e7, e8, e9, h⟩ := TD2 x port o1 w hw h2
  exact ⟨dr, m, e0, e1, e2, e3, e4, e5, e6, e7, e8, e9, runA1 x port o1 w 1 1 (by omega) (by omega) (by omega) (evA1 x port o1 w (by omega) h)⟩
theorem loopA (x port o1 w : Int) (hw : 0 ≤ w) (h2 : w < 120) : endA x port o1 w (gA x port o1 w 0 1 5 10 1 2 4 8 16 32 64 128 256 512) := by
  by_cases hc : w = 0
  · subst hc
    exact ⟨5, 10, 1, 2, 4, 8, 16, 32, 64, 128, 256, 512, lastA x port o1 0 1 5 10 1 2 4 8 16 32 64 128 256 512⟩
  · obtain ⟨dr, m, e0, e1, e2, e3, e4, e5, e6, e7, e8, e9, h⟩ := TA1 x port o1 w (by omega) h2
    exact ⟨dr, m, e0, e1, e2, e3, e4, e5, e6, e7, e8, e9, evA0 x port o1 w (by omega) h⟩
theorem loopD (x port o1 w : Int) (hw : 120 ≤ w) (h2 : w ≤ 200) : endD o1 w (gA x port o1 w 0 1 5 10 1 2 4 8 16 32 64 128 256 512) := by
  obtain ⟨dr, m, e0, e1, e2, e3, e4, e5, e6, e7, e8, e9, h⟩ := TD1 x port o1 w hw h2
  exact ⟨dr, m, e0, e1, e2, e3, e4, e5, e6, e7, e8, e9, evA0 x port o1 w (by omega) h⟩
end Go.Proofs.YtfofhpkafhpicaaGreatDoor.topShort
