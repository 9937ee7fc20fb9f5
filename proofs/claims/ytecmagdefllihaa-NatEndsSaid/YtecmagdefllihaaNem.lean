/- Several texts in one: Ne0, Ne1. -/
import Derived.Test.YtecmagdefllihaaUk
import Derived.Test.YtecmagdefllihaaOm

/- NatEnds: what its loop says at its head. -/
namespace Go.Proofs.Ytecmagdefllihaa
open Go.RowKit

def natO : AObj := ⟨113, 5, true, false, .rows [[.ptr 1 0 0, .ptr 2 0 0, .val (.int .i64 120), .val (.int .i64 7200), .val (.int .i64 30)]]⟩
def trkO : AObj := ⟨88, 2, true, false, .rows [[.val (.int .i64 128), .val (.slice none 0 0)]]⟩
def mapR (h out port : Int) : List AV := [.val (.int .i64 17), .val (.int .i64 out), .val (.int .u8 10), .val (.int .u8 0), .val (.int .u8 0), .val (.int .u8 (IntKind.wrap .u8 h)), .val (.int .i64 port), .val (.int .i64 1), .val (.int .i64 120)]
def lstO (a b port c d : Int) : AObj := ⟨65, 9, false, false, .rows [mapR a c port, mapR b d port]⟩
def seqB (n : Nat) (x : Nat → Int) : AV := .view 1 n fun k => [.val (.int .i64 (x k))]
def ndG0 (a b port : Int) (n : Nat) (x : Nat → Int) : GoalX := { len := 160, tms := [(9, .ptr 0 0 0), (10, .ptr 1 0 0)], opn := [(0, .val (.int .i64 a)), (1, .val (.int .i64 b)), (2, .val (.int .i64 port)), (3, seqB n x), (11, .val (.int .i64 (-1))), (12, .val (.int .i64 (-1))), (13, .val (.int .i64 0))], objs := [(0, natO), (1, ptab true false 40000 128 0 (.val (.slice none 0 0))), (2, trkO)], k := 3 }
def ndG1 (a b port : Int) (n : Nat) (x : Nat → Int) (c d : Int) (i : Nat) : GoalX := { len := 160, tms := [(9, .ptr 0 0 0), (10, .ptr 1 0 0)], opn := [(0, .val (.int .i64 a)), (1, .val (.int .i64 b)), (2, .val (.int .i64 port)), (3, seqB n x), (11, .val (.int .i64 c)), (12, .val (.int .i64 d)), (13, .val (.int .i64 (i : Int)))], objs := [(0, natO), (1, ptab true false 40000 128 0 (.sl 3 0 2 none)), (2, trkO)], oob := [(3, lstO a b port c d)], k := 4 }
def ndE0 (n : Nat) (x : Nat → Int) : GoalX := { len := 160, tms := [(10, .ptr 1 0 0)], opn := [(3, seqB n x)], objs := [(1, ptab true false 40000 128 0 (.val (.slice none 0 0)))], k := 3 }
def ndE1 (a b port : Int) (n : Nat) (x : Nat → Int) (c d : Int) : GoalX := { len := 160, tms := [(10, .ptr 1 0 0)], opn := [(3, seqB n x)], objs := [(1, ptab true false 40000 128 0 (.sl 3 0 2 none))], oob := [(3, lstO a b port c d)], k := 4 }
def ndL0 (a b port : Int) (n : Nat) (x : Nat → Int) : LoopX := { ids := [155, 68, 146], G := ndG0 a b port n x, ex := .exit 0, E := ndE0 n x }
def ndL1 (a b port : Int) (n : Nat) (x : Nat → Int) (c d : Int) : LoopX := { ids := [155, 68, 146], G := ndG0 a b port n x, ex := .exit 0, E := ndE1 a b port n x c d }
end Go.Proofs.Ytecmagdefllihaa

/- NatEnds: what its loop says at its head, with the contract of out. -/
namespace Go.Proofs.Ytecmagdefllihaa
open Go.RowKit
end Go.Proofs.Ytecmagdefllihaa
