/- A packet that passes again and again (Ip4Hops): what the head of the loop says. -/
import Derived.Test.YtoekncmggjhmjaaAbt
import Derived.Test.YtoekncmggjhmjaaFx
namespace Go.Proofs.Ytoekncmggjhmjaa
open Go.RowKit

def hI (z : Int) : AV := .val (.int .i64 z)
def hB (z : Int) : AV := .val (.int .u8 z)
def hpO (tos id flags part ttl proto f0 f1 f2 f3 t0 t1 t2 t3 : Int) (opts body : List UInt8) : AObj := objOne 26 [hI tos, hI id, hI flags, hI part, hI ttl, hI proto, hB f0, hB f1, hB f2, hB f3, hB t0, hB t1, hB t2, hB t3, .bytes opts, .bytes body]
def hpG (tos id flags part ttl proto f0 f1 f2 f3 t0 t1 t2 t3 : Int) (opts body : List UInt8) (n : Int) (ys : List UInt8) (i : Nat) : GoalX := { len := 75, tms := [(2, .ptr 0 0 0)], opn := [(1, hI n), (7, hI (i : Int)), (5, .sl 1 0 ys.length none)], oob := [(0, hpO tos id flags part ttl proto f0 f1 f2 f3 t0 t1 t2 t3 opts body), (1, objApp 5 ys)], k := 2 }
def hpE (tos id flags part ttl proto f0 f1 f2 f3 t0 t1 t2 t3 : Int) (opts body : List UInt8) (n : Int) (ys : List UInt8) : GoalX := { len := 75, tms := [(2, .ptr 0 0 0)], opn := [(1, hI n), (5, .sl 1 0 ys.length none)], oob := [(0, hpO tos id flags part ttl proto f0 f1 f2 f3 t0 t1 t2 t3 opts body), (1, objApp 5 ys)], k := 2 }
def hpN : GoalX := { len := 75, tms := [(4, .val (.bool true))] }
def hpL (tos id flags part ttl proto f0 f1 f2 f3 t0 t1 t2 t3 : Int) (opts body : List UInt8) (n : Int) (ys : List UInt8) (ids : List Nat) (zs : List UInt8) : LoopX := { ids := ids, G := hpG tos id flags part ttl proto f0 f1 f2 f3 t0 t1 t2 t3 opts body n ys 0, ex := .exit 0, E := hpE tos id flags part ttl proto f0 f1 f2 f3 t0 t1 t2 t3 opts body n zs }
def hpR (tos id flags part ttl proto f0 f1 f2 f3 t0 t1 t2 t3 : Int) (opts body : List UInt8) (n : Int) (ys : List UInt8) (ids : List Nat) : LoopX := { ids := ids, G := hpG tos id flags part ttl proto f0 f1 f2 f3 t0 t1 t2 t3 opts body n ys 0, ex := .ret, E := hpN }
end Go.Proofs.Ytoekncmggjhmjaa
