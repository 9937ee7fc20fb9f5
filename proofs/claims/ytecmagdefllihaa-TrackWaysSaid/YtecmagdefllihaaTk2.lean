/- TrackWays: what its loop says at its head. -/
import Derived.Test.YtecmagdefllihaaTk1
import Derived.Test.YtecmagdefllihaaKw
namespace Go.Proofs.Ytecmagdefllihaa
open Go.RowKit

def kW0 : Inl := orInl kAw (kSee false)
def kW1 : Inl := orInl kAw (kSee true)
theorem kW0_ok : InlOk Try.prog kW0 := orInl_ok kAw_ok (kSee_ok false)
theorem kW1_ok : InlOk Try.prog kW1 := orInl_ok kAw_ok (kSee_ok true)

def seqA (n : Nat) (x : Nat → Int) : AV := .view 1 n fun k => [i64 (x k)]
/-- nothing is kept yet -/
def wG0 (n : Nat) (x : Nat → Int) (i : Nat) : GoalX := { len := 53, tms := [(3, .ptr 0 0 0), (5, .ptr 1 0 0)], opn := [(0, seqA n x), (7, .val (.int .i64 (i : Int)))], objs := [(0, table (.val (.slice none 0 0))), (1, table (.val (.slice none 0 0)))], k := 2 }
/-- a talk stands so; the other table has it the other way round -/
def wG1 (n : Nat) (x : Nat → Int) (i : Nat) (st : Int) (inw : Bool) : GoalX := { len := 53, tms := [(3, .ptr 0 0 0), (5, .ptr 2 0 0)], opn := [(0, seqA n x), (7, .val (.int .i64 (i : Int)))], objs := [(0, table (.sl 1 0 1 none)), (2, table (.sl 3 0 1 none))], oob := [(1, talk st inw), (3, talk st (!inw))], k := 4 }
def wE : GoalX := { len := 53 }
def wL (ids : List Nat) (n : Nat) (x : Nat → Int) : LoopX := { ids := ids, G := wG0 n x 0, ex := .exit 0, E := wE }
def fl63 (z : Int) : Int := bits .and .i64 z 63
def in64 (z : Int) : Bool := bits .and .i64 z 64 != 0
end Go.Proofs.Ytecmagdefllihaa
