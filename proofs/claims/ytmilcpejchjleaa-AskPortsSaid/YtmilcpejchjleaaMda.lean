/- Several texts in one: Da0. -/
import Derived.Test.YtmilcpejchjleaaMdz
import Derived.Test.YtmilcpejchjleaaLa

/- Messages: words, and whether one is more than is asked of (law 21). -/
namespace Go.Proofs.Ytmilcpejchjleaa
open Go.RowKit

structure DQ where
  name : List (List UInt8)
  ty : Int
  cl : Int
structure DR where
  name : List (List UInt8)
  ty : Int
  cl : Int
  ttl : Int
  data : List UInt8
def dq0 : DQ := ⟨[], 0, 0⟩
def dr0 : DR := ⟨[], 0, 0, 0, []⟩
def iU (z : Int) : AV := .val (.int .u32 z)
def vQ (qs : List DQ) : AV := .view 3 qs.length fun i => [vS (qs.getD i dq0).name, iI (qs.getD i dq0).ty, iI (qs.getD i dq0).cl]
def vR (rs : List DR) : AV := .view 5 rs.length fun i => [vS (rs.getD i dr0).name, iI (rs.getD i dr0).ty, iI (rs.getD i dr0).cl, iU (rs.getD i dr0).ttl, .bytes (rs.getD i dr0).data]
def unDQ : List AV → DQ
  | [nm, .val (.int _ ty), .val (.int _ cl)] => ⟨lsOf nm, ty, cl⟩
  | _ => dq0
def unDR : List AV → DR
  | [nm, .val (.int _ ty), .val (.int _ cl), .val (.int _ ttl), .bytes d] => ⟨lsOf nm, ty, cl, ttl, d⟩
  | _ => dr0
def RQ : RTy DQ := ⟨fun q => [vS q.name, iI q.ty, iI q.cl], unDQ, dq0, 3, fun q => by
  show DQ.mk (lsOf (vS q.name)) q.ty q.cl = q
  rw [lsOf_vS], fun _ => rfl, fun _ _ => rfl⟩
def RR : RTy DR := ⟨fun q => [vS q.name, iI q.ty, iI q.cl, iU q.ttl, .bytes q.data], unDR, dr0, 5, fun q => by
  show DR.mk (lsOf (vS q.name)) q.ty q.cl q.ttl q.data = q
  rw [lsOf_vS], fun _ => rfl, fun _ _ => rfl⟩
def ofVQ (x : AV) : List DQ := ofVG RQ x
def ofRQ (x : List (List AV)) : List DQ := ofRG RQ x
def okRQ (x : List (List AV)) : Prop := okRG RQ x
def ofVR (x : AV) : List DR := ofVG RR x
def ofRR (x : List (List AV)) : List DR := ofRG RR x
def okRR (x : List (List AV)) : Prop := okRG RR x
def rowsQ (l : List DQ) : List (List AV) := rowsG RQ l
def rowsR (l : List DR) : List (List AV) := rowsG RR l
def WQ : RTyW DQ := ⟨RQ, 3, ofVQ, ofRQ, okRQ, vQ, rfl, fun _ => rfl, fun _ => rfl, fun _ => rfl, fun _ => rfl⟩
def WR : RTyW DR := ⟨RR, 5, ofVR, ofRR, okRR, vR, rfl, fun _ => rfl, fun _ => rfl, fun _ => rfl, fun _ => rfl⟩
theorem ofVQ_v (l : List DQ) : ofVQ (vQ l) = l := RTy.ofV_v RQ l
theorem ofVR_v (l : List DR) : ofVR (vR l) = l := RTy.ofV_v RR l
def msgA (id fl : Int) (qs : List DQ) (a o m : List DR) : AV := .agg [iI id, iI fl, vQ qs, vR a, vR o, vR m]

def kLong21 : Inl := kPlain 107 (fun ls => .bool (longN ls)) fun _ => True
def l1G (ls : List (List UInt8)) (i : Nat) : GoalX := { len := 19, opn := [(0, vS ls), (3, sI i)] }
def l1E : GoalX := { len := 19 }
def l1N : GoalX := { len := 19, tms := [(2, .val (.bool true))] }
def l1L (ls : List (List UInt8)) : LoopX := { ids := [], G := l1G ls 0, ex := .exit 0, E := l1E }
def l1R (ls : List (List UInt8)) : LoopX := { ids := [], G := l1G ls 0, ex := .ret, E := l1N }

def manR (rs : List DR) : Bool := rs.any fun r => longN r.name || decide (2000 < r.data.length)
def manN (rs : List DR) : Bool := decide (70 < rs.length) || manR rs
def mnG (rs : List DR) (i : Nat) : GoalX := { len := 28, opn := [(0, vR rs), (3, sI i)] }
def mnE : GoalX := { len := 28 }
def mnN : GoalX := { len := 28, tms := [(2, .val (.bool true))] }
def mnL (rs : List DR) : LoopX := { ids := [], G := mnG rs 0, ex := .exit 0, E := mnE }
def mnR (rs : List DR) : LoopX := { ids := [], G := mnG rs 0, ex := .ret, E := mnN }

def kMany : Inl := WR.known 106 (fun rs => .bool (manN rs)) fun _ => True
def grR (qs : List DQ) : Bool := qs.any fun q => longN q.name
def grtG (id fl : Int) (qs : List DQ) (a o m : List DR) (i : Nat) : GoalX := { len := 37, tms := [(1, .ptr 0 0 0)], opn := [(3, sI i)], oob := [(0, objOne 36 [iI id, iI fl, vQ qs, vR a, vR o, vR m])], k := 1 }
def grtE : GoalX := { len := 37 }
def grtN : GoalX := { len := 37, tms := [(2, .val (.bool true))] }
def grtL (id fl : Int) (qs : List DQ) (a o m : List DR) : LoopX := { ids := [0], G := grtG id fl qs a o m 0, ex := .exit 0, E := grtE }
def grtR (id fl : Int) (qs : List DQ) (a o m : List DR) : LoopX := { ids := [0], G := grtG id fl qs a o m 0, ex := .ret, E := grtN }
def kGr : Inl := orInl kMany kLong21
end Go.Proofs.Ytmilcpejchjleaa
