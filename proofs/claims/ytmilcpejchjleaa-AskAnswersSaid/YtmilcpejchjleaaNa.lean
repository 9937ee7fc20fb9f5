/- Small letters, and labels that are alike: plain words. -/
import Derived.Test.YtmilcpejchjleaaLift
import Derived.Test.YtmilcpejchjleaaWn
import Derived.Test.YtmilcpejchjleaaRp
namespace Go.Proofs.Ytmilcpejchjleaa
open Go.RowKit

/-- a letter's small one -/
def low (z : Int) : Int := if 65 ≤ z ∧ z ≤ 90 then z + 32 else z
def lowB (x : UInt8) : Int := low (x.toNat : Int)
def sStr (a : List UInt8) : AV := .val (.string ⟨a.toArray⟩)
def sI (n : Nat) : AV := .val (.int .i64 (n : Int))
/-- alike, sign by sign -/
def alikeB (a b : List UInt8) : Bool := a.length == b.length && (List.range a.length).all fun i => lowB (a.getD i 0) == lowB (b.getD i 0)

def alkG (a b : List UInt8) (i : Nat) : GoalX := { len := 26, opn := [(0, sStr a), (1, sStr b), (12, sI a.length), (13, sI i)] }
def alkE : GoalX := { len := 26 }
def alkN : GoalX := { len := 26, tms := [(4, .val (.bool false))] }
def alkL (a b : List UInt8) : LoopX := { ids := [], G := alkG a b 0, ex := .exit 0, E := alkE }
def alkR (a b : List UInt8) : LoopX := { ids := [], G := alkG a b 0, ex := .ret, E := alkN }
end Go.Proofs.Ytmilcpejchjleaa
