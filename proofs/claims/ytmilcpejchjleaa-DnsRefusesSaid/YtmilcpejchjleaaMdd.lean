/- Several texts in one: Dd0, DdRun, Dd, De. -/
import Derived.Test.YtmilcpejchjleaaMdc

/- A message that is written (dns.Put): words, and what the heads of the loops say. -/
namespace Go.Proofs.Ytmilcpejchjleaa
open Go.RowKit
set_option linter.unusedSimpArgs false

def argQ : AV → Option DQ
  | .agg l => some (unDQ l)
  | _ => none
def argR : AV → Option DR
  | .agg l => some (unDR l)
  | _ => none
def quA (q : DQ) : AV := .agg [vS q.name, iI q.ty, iI q.cl]
def rcA (q : DR) : AV := .agg [vS q.name, iI q.ty, iI q.cl, iU q.ttl, .bytes q.data]
def kQu : Inl := kBytes 98 argQ (fun b q => b.length ≤ 800000 ∧ lsK q.name ∧ qOk q = true) (fun b q => b ++ encQ q) 100 (fun q y => y = quA q)
def rcK (b : List UInt8) (q : DR) : Prop := b.length ≤ 800000 ∧ lsK q.name ∧ rOk q = true ∧ 0 ≤ q.ttl ∧ q.ttl ≤ 4294967295
def kRc : Inl := kBytes 99 argR rcK (fun b q => b ++ encR q) 200 (fun q y => y = rcA q)
theorem kQu_ok : InlOk Try.prog kQu := kBytes_ok (av := quA) (fun a y h => h) (fun a r => rfl) (by decide) (fun b q h => qu_call b q h.1 h.2.1 h.2.2)
theorem kRc_ok : InlOk Try.prog kRc := kBytes_ok (av := rcA) (fun a y h => h) (fun a r => rfl) (by decide) (fun b q h => rc_call b q h.1 h.2.1 h.2.2.1 h.2.2.2)
theorem unDQ_row (q : DQ) : unDQ [vS q.name, iI q.ty, iI q.cl] = q := RQ.un_row q
theorem unDR_row (q : DR) : unDR [vS q.name, iI q.ty, iI q.cl, iU q.ttl, .bytes q.data] = q := RR.un_row q

def kGdM : Inl := fun g xs L nx =>
  if g = 96 then
    match xs with
    | [.agg [.val (.int .i64 id), .val (.int .i64 fl), q, a, o, m]] =>
      if L.all (fun q => decide (q.1 < nx)) = true then
        some (.val (.bool (gdM id fl (ofVQ q) (ofVR a) (ofVR o) (ofVR m))), L, nx, [q = vQ (ofVQ q), a = vR (ofVR a), o = vR (ofVR o), m = vR (ofVR m), qK (ofVQ q), rK (ofVR a), rK (ofVR o), rK (ofVR m)])
      else none
    | _ => none
  else none
theorem kGdM_ok : InlOk Try.prog kGdM := by
  intro g xs L nx v L' nx' q h hq
  unfold kGdM at h
  split at h
  · rename_i hg
    subst hg
    split at h
    · rename_i id fl q a o m
      split at h
      · simp only [Option.some.injEq, Prod.mk.injEq] at h
        obtain ⟨rfl, rfl, rfl, rfl⟩ := h
        simp only [List.forall_mem_cons, List.not_mem_nil, false_implies, implies_true, and_true] at hq
        obtain ⟨q1, q2, q3, q4, q5, q6, q7, q8⟩ := hq
        generalize ofVQ q = q' at *
        generalize ofVR a = a' at *
        generalize ofVR o = o' at *
        generalize ofVR m = m' at *
        subst q1 q2 q3 q4
        exact ⟨(good_msg id fl q' a' o' m' q5 q6 q7 q8).lift (fun r => rfl) L nx, Nat.le_refl _⟩
      · cases h
    · cases h
  · cases h
def kPt : Inl := orInl kGdM (orInl kU16 (orInl kQu kRc))
theorem kPt_ok : InlOk Try.prog kPt := orInl_ok kGdM_ok (orInl_ok kU16_ok (orInl_ok kQu_ok kRc_ok))

def pqG (id fl : Int) (qs : List DQ) (a o m : List DR) (x : List UInt8) (i : Nat) : GoalX := { len := 83, tms := [(1, .ptr 0 0 0)], opn := [(43, vQ qs), (44, sI qs.length), (45, sI i), (4, .sl 1 0 x.length none)], oob := [(0, msgO id fl qs a o m), (1, puO x)], k := 2 }
def pqE (id fl : Int) (qs : List DQ) (a o m : List DR) (x : List UInt8) : GoalX := { len := 83, tms := [(1, .ptr 0 0 0)], opn := [(4, .sl 1 0 x.length none)], oob := [(0, msgO id fl qs a o m), (1, puO x)], k := 2 }
def plG (a o m : List DR) (x : List UInt8) (j : Nat) : GoalX := { len := 83, tms := [(59, .sl 0 0 3 none), (60, iI 3)], opn := [(61, sI j), (4, .sl 1 0 x.length none)], oob := [(0, lists3 a o m), (1, puO x)], k := 2 }
def piG (a o m : List DR) (x : List UInt8) (j : Nat) (rs : List DR) (i : Nat) : GoalX := { len := 83, tms := [(59, .sl 0 0 3 none), (60, iI 3)], opn := [(61, sI j), (65, vR rs), (66, sI rs.length), (67, sI i), (4, .sl 1 0 x.length none)], oob := [(0, lists3 a o m), (1, puO x)], k := 2 }
def plE (x : List UInt8) : GoalX := { len := 83, opn := [(4, .sl 0 0 x.length none)], oob := [(0, puO x)], k := 1 }
def plN : GoalX := { len := 83, tms := [(2, nilS), (3, iI 2)] }
def pqL (id fl : Int) (qs : List DQ) (a o m : List DR) (x y : List UInt8) : LoopX := { ids := [0, 184], G := pqG id fl qs a o m x 0, ex := .exit 2, E := pqE id fl qs a o m y }
def plL (a o m : List DR) (x : List UInt8) (e : Ex) (E : GoalX) : LoopX := { ids := [8, 1], G := plG a o m x 0, ex := e, E := E }
def piL (a o m : List DR) (x : List UInt8) (j : Nat) (rs : List DR) (e : Ex) (E : GoalX) : LoopX := { ids := [0, 1], G := piG a o m x j rs 0, ex := e, E := E }
/-- what stands ahead -/
def headM (id fl : Int) (q a o m : Nat) : List UInt8 := be2 id ++ be2 fl ++ be2 (q : Int) ++ be2 (a : Int) ++ be2 (o : Int) ++ be2 (m : Int)
end Go.Proofs.Ytmilcpejchjleaa

/- A message that is written, reckoned. -/
namespace Go.Proofs.Ytmilcpejchjleaa
open Go.RowKit

set_option maxRecDepth 100000 in
theorem ptm_bad (id : Int) (fl : Int) (qs : List DQ) (a : List DR) (o : List DR) (m : List DR) : outXS kPt [(58, { br := [(15, true)] })] Try.prog 58 [AV.agg [AV.val (Value.int IntKind.i64 id), AV.val (Value.int IntKind.i64 fl), vQ qs, vR a, vR o, vR m]] [] 0 [] [] = some (AV.tup [AV.val (Value.slice none 0 0), AV.val (Value.int IntKind.i64 (1 : Int))], [], 8, [(vQ qs) = vQ (ofVQ (vQ qs)), (vR a) = vR (ofVR (vR a)), (vR o) = vR (ofVR (vR o)), (vR m) = vR (ofVR (vR m)), qK (ofVQ (vQ qs)), rK (ofVR (vR a)), rK (ofVR (vR o)), rK (ofVR (vR m)), (!gdM id fl (ofVQ (vQ qs)) (ofVR (vR a)) (ofVR (vR o)) (ofVR (vR m))) = true]) := by kernel_rfl

set_option maxRecDepth 100000 in
theorem ptm_ret (id : Int) (fl : Int) (qs : List DQ) (a : List DR) (o : List DR) (m : List DR) (y : List UInt8) (z : List UInt8) : outXS kPt [(58, { br := [(15, false)], ob := [(7, 2)] })] Try.prog 58 [AV.agg [AV.val (Value.int IntKind.i64 id), AV.val (Value.int IntKind.i64 fl), vQ qs, vR a, vR o, vR m]] [] 0 [] [(10, pqL id fl qs a o m (headM id fl (List.length qs) (List.length a) (List.length o) (List.length m)) y), (15, plL a o m y Ex.ret plN)] = some (AV.tup [AV.val (Value.slice none 0 0), AV.val (Value.int IntKind.i64 (2 : Int))], [], 0, [(vQ qs) = vQ (ofVQ (vQ qs)), (vR a) = vR (ofVR (vR a)), (vR o) = vR (ofVR (vR o)), (vR m) = vR (ofVR (vR m)), qK (ofVQ (vQ qs)), rK (ofVR (vR a)), rK (ofVR (vR o)), rK (ofVR (vR m)), (!gdM id fl (ofVQ (vQ qs)) (ofVR (vR a)) (ofVR (vR o)) (ofVR (vR m))) = false, Value.slice none 0 0 = Value.slice none 0 0, AV.val (Value.int IntKind.i64 id) = AV.val (Value.int IntKind.i64 id), 0 ≤ 1000000 ∧ pairB id = true, 1 = 1 ∧ List.length (be2 id) = List.length (be2 id), AV.val (Value.int IntKind.i64 fl) = AV.val (Value.int IntKind.i64 fl), List.length (be2 id) ≤ 1000000 ∧ pairB fl = true, 1 = 1 ∧ List.length (be2 id ++ be2 fl) = List.length (be2 id ++ be2 fl), AV.val (Value.int IntKind.i64 (↑(List.length qs) : Int)) = AV.val (Value.int IntKind.i64 (↑(List.length qs) : Int)), List.length (be2 id ++ be2 fl) ≤ 1000000 ∧ pairB (↑(List.length qs) : Int) = true, 1 = 1 ∧ List.length (be2 id ++ be2 fl ++ be2 (↑(List.length qs) : Int)) = List.length (be2 id ++ be2 fl ++ be2 (↑(List.length qs) : Int)), AV.val (Value.int IntKind.i64 (↑(List.length a) : Int)) = AV.val (Value.int IntKind.i64 (↑(List.length a) : Int)), List.length (be2 id ++ be2 fl ++ be2 (↑(List.length qs) : Int)) ≤ 1000000 ∧ pairB (↑(List.length a) : Int) = true, 1 = 1 ∧ List.length (be2 id ++ be2 fl ++ be2 (↑(List.length qs) : Int) ++ be2 (↑(List.length a) : Int)) = List.length (be2 id ++ be2 fl ++ be2 (↑(List.length qs) : Int) ++ be2 (↑(List.length a) : Int)), AV.val (Value.int IntKind.i64 (↑(List.length o) : Int)) = AV.val (Value.int IntKind.i64 (↑(List.length o) : Int)), List.length (be2 id ++ be2 fl ++ be2 (↑(List.length qs) : Int) ++ be2 (↑(List.length a) : Int)) ≤ 1000000 ∧ pairB (↑(List.length o) : Int) = true, 1 = 1 ∧ List.length (be2 id ++ be2 fl ++ be2 (↑(List.length qs) : Int) ++ be2 (↑(List.length a) : Int) ++ be2 (↑(List.length o) : Int)) = List.length (be2 id ++ be2 fl ++ be2 (↑(List.length qs) : Int) ++ be2 (↑(List.length a) : Int) ++ be2 (↑(List.length o) : Int)), AV.val (Value.int IntKind.i64 (↑(List.length m) : Int)) = AV.val (Value.int IntKind.i64 (↑(List.length m) : Int)), List.length (be2 id ++ be2 fl ++ be2 (↑(List.length qs) : Int) ++ be2 (↑(List.length a) : Int) ++ be2 (↑(List.length o) : Int)) ≤ 1000000 ∧ pairB (↑(List.length m) : Int) = true, (vQ qs) = vQ qs, AV.val (Value.int IntKind.i64 (↑(List.length qs) : Int)) = AV.val (Value.int IntKind.i64 (↑(List.length qs) : Int)), AV.val (Value.int IntKind.i64 (0 : Int)) = AV.val (Value.int IntKind.i64 (0 : Int)), AV.sl 184 0 (List.length (be2 id ++ be2 fl ++ be2 (↑(List.length qs) : Int) ++ be2 (↑(List.length a) : Int) ++ be2 (↑(List.length o) : Int) ++ be2 (↑(List.length m) : Int))) none = AV.sl 184 0 (List.length (headM id fl (List.length qs) (List.length a) (List.length o) (List.length m))) none, SameO (some { t := 36, sz := 6, exact := true, fz := false, body := Body.rows [[AV.val (Value.int IntKind.i64 id), AV.val (Value.int IntKind.i64 fl), vQ qs, vR a, vR o, vR m]] }) { t := 36, sz := 6, exact := true, fz := false, body := Body.rows [[AV.val (Value.int IntKind.i64 id), AV.val (Value.int IntKind.i64 fl), vQ qs, vR a, vR o, vR m]] }, SameO (some { t := 5, sz := 1, exact := false, fz := false, body := Body.bytes (be2 id ++ be2 fl ++ be2 (↑(List.length qs) : Int) ++ be2 (↑(List.length a) : Int) ++ be2 (↑(List.length o) : Int) ++ be2 (↑(List.length m) : Int)) }) { t := 5, sz := 1, exact := false, fz := false, body := Body.bytes (headM id fl (List.length qs) (List.length a) (List.length o) (List.length m)) }, EvXL Try.prog 0 (loopAt Try.prog 58 10) (GoalX.st (LoopX.G (pqL id fl qs a o m (headM id fl (List.length qs) (List.length a) (List.length o) (List.length m)) y)) 0) (LoopX.ex (pqL id fl qs a o m (headM id fl (List.length qs) (List.length a) (List.length o) (List.length m)) y)) (GoalX.st (LoopX.E (pqL id fl qs a o m (headM id fl (List.length qs) (List.length a) (List.length o) (List.length m)) y)) 0), AV.val (Value.int IntKind.i64 (0 : Int)) = AV.val (Value.int IntKind.i64 (0 : Int)), AV.sl 1 0 (List.length y) none = AV.sl 1 0 (List.length y) none, SameO (some { t := 34, sz := 1, exact := true, fz := false, body := Body.rows [[vR a], [vR o], [vR m]] }) { t := 34, sz := 1, exact := true, fz := false, body := Body.rows [[vR a], [vR o], [vR m]] }, SameO (some { t := 5, sz := 1, exact := false, fz := false, body := Body.bytes y }) { t := 5, sz := 1, exact := false, fz := false, body := Body.bytes y }, EvXL Try.prog 0 (loopAt Try.prog 58 15) (GoalX.st (LoopX.G (plL a o m y Ex.ret plN)) 0) (LoopX.ex (plL a o m y Ex.ret plN)) (GoalX.st (LoopX.E (plL a o m y Ex.ret plN)) 0)]) := by kernel_rfl

set_option maxRecDepth 100000 in
theorem ptm_big (id : Int) (fl : Int) (qs : List DQ) (a : List DR) (o : List DR) (m : List DR) (y : List UInt8) (z : List UInt8) : outXS kPt [(58, { br := [(15, false), (81, true)], ob := [(7, 2)] })] Try.prog 58 [AV.agg [AV.val (Value.int IntKind.i64 id), AV.val (Value.int IntKind.i64 fl), vQ qs, vR a, vR o, vR m]] [] 0 [] [(10, pqL id fl qs a o m (headM id fl (List.length qs) (List.length a) (List.length o) (List.length m)) y), (15, plL a o m y (Ex.exit 4) (plE z))] = some (AV.tup [AV.val (Value.slice none 0 0), AV.val (Value.int IntKind.i64 (2 : Int))], [], 6, [(vQ qs) = vQ (ofVQ (vQ qs)), (vR a) = vR (ofVR (vR a)), (vR o) = vR (ofVR (vR o)), (vR m) = vR (ofVR (vR m)), qK (ofVQ (vQ qs)), rK (ofVR (vR a)), rK (ofVR (vR o)), rK (ofVR (vR m)), (!gdM id fl (ofVQ (vQ qs)) (ofVR (vR a)) (ofVR (vR o)) (ofVR (vR m))) = false, Value.slice none 0 0 = Value.slice none 0 0, AV.val (Value.int IntKind.i64 id) = AV.val (Value.int IntKind.i64 id), 0 ≤ 1000000 ∧ pairB id = true, 1 = 1 ∧ List.length (be2 id) = List.length (be2 id), AV.val (Value.int IntKind.i64 fl) = AV.val (Value.int IntKind.i64 fl), List.length (be2 id) ≤ 1000000 ∧ pairB fl = true, 1 = 1 ∧ List.length (be2 id ++ be2 fl) = List.length (be2 id ++ be2 fl), AV.val (Value.int IntKind.i64 (↑(List.length qs) : Int)) = AV.val (Value.int IntKind.i64 (↑(List.length qs) : Int)), List.length (be2 id ++ be2 fl) ≤ 1000000 ∧ pairB (↑(List.length qs) : Int) = true, 1 = 1 ∧ List.length (be2 id ++ be2 fl ++ be2 (↑(List.length qs) : Int)) = List.length (be2 id ++ be2 fl ++ be2 (↑(List.length qs) : Int)), AV.val (Value.int IntKind.i64 (↑(List.length a) : Int)) = AV.val (Value.int IntKind.i64 (↑(List.length a) : Int)), List.length (be2 id ++ be2 fl ++ be2 (↑(List.length qs) : Int)) ≤ 1000000 ∧ pairB (↑(List.length a) : Int) = true, 1 = 1 ∧ List.length (be2 id ++ be2 fl ++ be2 (↑(List.length qs) : Int) ++ be2 (↑(List.length a) : Int)) = List.length (be2 id ++ be2 fl ++ be2 (↑(List.length qs) : Int) ++ be2 (↑(List.length a) : Int)), AV.val (Value.int IntKind.i64 (↑(List.length o) : Int)) = AV.val (Value.int IntKind.i64 (↑(List.length o) : Int)), List.length (be2 id ++ be2 fl ++ be2 (↑(List.length qs) : Int) ++ be2 (↑(List.length a) : Int)) ≤ 1000000 ∧ pairB (↑(List.length o) : Int) = true, 1 = 1 ∧ List.length (be2 id ++ be2 fl ++ be2 (↑(List.length qs) : Int) ++ be2 (↑(List.length a) : Int) ++ be2 (↑(List.length o) : Int)) = List.length (be2 id ++ be2 fl ++ be2 (↑(List.length qs) : Int) ++ be2 (↑(List.length a) : Int) ++ be2 (↑(List.length o) : Int)), AV.val (Value.int IntKind.i64 (↑(List.length m) : Int)) = AV.val (Value.int IntKind.i64 (↑(List.length m) : Int)), List.length (be2 id ++ be2 fl ++ be2 (↑(List.length qs) : Int) ++ be2 (↑(List.length a) : Int) ++ be2 (↑(List.length o) : Int)) ≤ 1000000 ∧ pairB (↑(List.length m) : Int) = true, (vQ qs) = vQ qs, AV.val (Value.int IntKind.i64 (↑(List.length qs) : Int)) = AV.val (Value.int IntKind.i64 (↑(List.length qs) : Int)), AV.val (Value.int IntKind.i64 (0 : Int)) = AV.val (Value.int IntKind.i64 (0 : Int)), AV.sl 184 0 (List.length (be2 id ++ be2 fl ++ be2 (↑(List.length qs) : Int) ++ be2 (↑(List.length a) : Int) ++ be2 (↑(List.length o) : Int) ++ be2 (↑(List.length m) : Int))) none = AV.sl 184 0 (List.length (headM id fl (List.length qs) (List.length a) (List.length o) (List.length m))) none, SameO (some { t := 36, sz := 6, exact := true, fz := false, body := Body.rows [[AV.val (Value.int IntKind.i64 id), AV.val (Value.int IntKind.i64 fl), vQ qs, vR a, vR o, vR m]] }) { t := 36, sz := 6, exact := true, fz := false, body := Body.rows [[AV.val (Value.int IntKind.i64 id), AV.val (Value.int IntKind.i64 fl), vQ qs, vR a, vR o, vR m]] }, SameO (some { t := 5, sz := 1, exact := false, fz := false, body := Body.bytes (be2 id ++ be2 fl ++ be2 (↑(List.length qs) : Int) ++ be2 (↑(List.length a) : Int) ++ be2 (↑(List.length o) : Int) ++ be2 (↑(List.length m) : Int)) }) { t := 5, sz := 1, exact := false, fz := false, body := Body.bytes (headM id fl (List.length qs) (List.length a) (List.length o) (List.length m)) }, EvXL Try.prog 0 (loopAt Try.prog 58 10) (GoalX.st (LoopX.G (pqL id fl qs a o m (headM id fl (List.length qs) (List.length a) (List.length o) (List.length m)) y)) 0) (LoopX.ex (pqL id fl qs a o m (headM id fl (List.length qs) (List.length a) (List.length o) (List.length m)) y)) (GoalX.st (LoopX.E (pqL id fl qs a o m (headM id fl (List.length qs) (List.length a) (List.length o) (List.length m)) y)) 0), AV.val (Value.int IntKind.i64 (0 : Int)) = AV.val (Value.int IntKind.i64 (0 : Int)), AV.sl 1 0 (List.length y) none = AV.sl 1 0 (List.length y) none, SameO (some { t := 34, sz := 1, exact := true, fz := false, body := Body.rows [[vR a], [vR o], [vR m]] }) { t := 34, sz := 1, exact := true, fz := false, body := Body.rows [[vR a], [vR o], [vR m]] }, SameO (some { t := 5, sz := 1, exact := false, fz := false, body := Body.bytes y }) { t := 5, sz := 1, exact := false, fz := false, body := Body.bytes y }, EvXL Try.prog 0 (loopAt Try.prog 58 15) (GoalX.st (LoopX.G (plL a o m y (Ex.exit 4) (plE z))) 0) (LoopX.ex (plL a o m y (Ex.exit 4) (plE z))) (GoalX.st (LoopX.E (plL a o m y (Ex.exit 4) (plE z))) 0), decide ((↑(List.length z) : Int) > (1472 : Int)) = true]) := by kernel_rfl

set_option maxRecDepth 100000 in
theorem ptm_ok (id : Int) (fl : Int) (qs : List DQ) (a : List DR) (o : List DR) (m : List DR) (y : List UInt8) (z : List UInt8) : outXS kPt [(58, { br := [(15, false), (81, false)], ob := [(7, 2)] })] Try.prog 58 [AV.agg [AV.val (Value.int IntKind.i64 id), AV.val (Value.int IntKind.i64 fl), vQ qs, vR a, vR o, vR m]] [] 0 [0] [(10, pqL id fl qs a o m (headM id fl (List.length qs) (List.length a) (List.length o) (List.length m)) y), (15, plL a o m y (Ex.exit 4) (plE z))] = some (AV.tup [AV.sl 0 0 (List.length z) none, AV.val (Value.int IntKind.i64 (0 : Int))], [(0, { t := 5, sz := 1, exact := false, fz := false, body := Body.bytes z })], 7, [(vQ qs) = vQ (ofVQ (vQ qs)), (vR a) = vR (ofVR (vR a)), (vR o) = vR (ofVR (vR o)), (vR m) = vR (ofVR (vR m)), qK (ofVQ (vQ qs)), rK (ofVR (vR a)), rK (ofVR (vR o)), rK (ofVR (vR m)), (!gdM id fl (ofVQ (vQ qs)) (ofVR (vR a)) (ofVR (vR o)) (ofVR (vR m))) = false, Value.slice none 0 0 = Value.slice none 0 0, AV.val (Value.int IntKind.i64 id) = AV.val (Value.int IntKind.i64 id), 0 ≤ 1000000 ∧ pairB id = true, 1 = 1 ∧ List.length (be2 id) = List.length (be2 id), AV.val (Value.int IntKind.i64 fl) = AV.val (Value.int IntKind.i64 fl), List.length (be2 id) ≤ 1000000 ∧ pairB fl = true, 1 = 1 ∧ List.length (be2 id ++ be2 fl) = List.length (be2 id ++ be2 fl), AV.val (Value.int IntKind.i64 (↑(List.length qs) : Int)) = AV.val (Value.int IntKind.i64 (↑(List.length qs) : Int)), List.length (be2 id ++ be2 fl) ≤ 1000000 ∧ pairB (↑(List.length qs) : Int) = true, 1 = 1 ∧ List.length (be2 id ++ be2 fl ++ be2 (↑(List.length qs) : Int)) = List.length (be2 id ++ be2 fl ++ be2 (↑(List.length qs) : Int)), AV.val (Value.int IntKind.i64 (↑(List.length a) : Int)) = AV.val (Value.int IntKind.i64 (↑(List.length a) : Int)), List.length (be2 id ++ be2 fl ++ be2 (↑(List.length qs) : Int)) ≤ 1000000 ∧ pairB (↑(List.length a) : Int) = true, 1 = 1 ∧ List.length (be2 id ++ be2 fl ++ be2 (↑(List.length qs) : Int) ++ be2 (↑(List.length a) : Int)) = List.length (be2 id ++ be2 fl ++ be2 (↑(List.length qs) : Int) ++ be2 (↑(List.length a) : Int)), AV.val (Value.int IntKind.i64 (↑(List.length o) : Int)) = AV.val (Value.int IntKind.i64 (↑(List.length o) : Int)), List.length (be2 id ++ be2 fl ++ be2 (↑(List.length qs) : Int) ++ be2 (↑(List.length a) : Int)) ≤ 1000000 ∧ pairB (↑(List.length o) : Int) = true, 1 = 1 ∧ List.length (be2 id ++ be2 fl ++ be2 (↑(List.length qs) : Int) ++ be2 (↑(List.length a) : Int) ++ be2 (↑(List.length o) : Int)) = List.length (be2 id ++ be2 fl ++ be2 (↑(List.length qs) : Int) ++ be2 (↑(List.length a) : Int) ++ be2 (↑(List.length o) : Int)), AV.val (Value.int IntKind.i64 (↑(List.length m) : Int)) = AV.val (Value.int IntKind.i64 (↑(List.length m) : Int)), List.length (be2 id ++ be2 fl ++ be2 (↑(List.length qs) : Int) ++ be2 (↑(List.length a) : Int) ++ be2 (↑(List.length o) : Int)) ≤ 1000000 ∧ pairB (↑(List.length m) : Int) = true, (vQ qs) = vQ qs, AV.val (Value.int IntKind.i64 (↑(List.length qs) : Int)) = AV.val (Value.int IntKind.i64 (↑(List.length qs) : Int)), AV.val (Value.int IntKind.i64 (0 : Int)) = AV.val (Value.int IntKind.i64 (0 : Int)), AV.sl 184 0 (List.length (be2 id ++ be2 fl ++ be2 (↑(List.length qs) : Int) ++ be2 (↑(List.length a) : Int) ++ be2 (↑(List.length o) : Int) ++ be2 (↑(List.length m) : Int))) none = AV.sl 184 0 (List.length (headM id fl (List.length qs) (List.length a) (List.length o) (List.length m))) none, SameO (some { t := 36, sz := 6, exact := true, fz := false, body := Body.rows [[AV.val (Value.int IntKind.i64 id), AV.val (Value.int IntKind.i64 fl), vQ qs, vR a, vR o, vR m]] }) { t := 36, sz := 6, exact := true, fz := false, body := Body.rows [[AV.val (Value.int IntKind.i64 id), AV.val (Value.int IntKind.i64 fl), vQ qs, vR a, vR o, vR m]] }, SameO (some { t := 5, sz := 1, exact := false, fz := false, body := Body.bytes (be2 id ++ be2 fl ++ be2 (↑(List.length qs) : Int) ++ be2 (↑(List.length a) : Int) ++ be2 (↑(List.length o) : Int) ++ be2 (↑(List.length m) : Int)) }) { t := 5, sz := 1, exact := false, fz := false, body := Body.bytes (headM id fl (List.length qs) (List.length a) (List.length o) (List.length m)) }, EvXL Try.prog 0 (loopAt Try.prog 58 10) (GoalX.st (LoopX.G (pqL id fl qs a o m (headM id fl (List.length qs) (List.length a) (List.length o) (List.length m)) y)) 0) (LoopX.ex (pqL id fl qs a o m (headM id fl (List.length qs) (List.length a) (List.length o) (List.length m)) y)) (GoalX.st (LoopX.E (pqL id fl qs a o m (headM id fl (List.length qs) (List.length a) (List.length o) (List.length m)) y)) 0), AV.val (Value.int IntKind.i64 (0 : Int)) = AV.val (Value.int IntKind.i64 (0 : Int)), AV.sl 1 0 (List.length y) none = AV.sl 1 0 (List.length y) none, SameO (some { t := 34, sz := 1, exact := true, fz := false, body := Body.rows [[vR a], [vR o], [vR m]] }) { t := 34, sz := 1, exact := true, fz := false, body := Body.rows [[vR a], [vR o], [vR m]] }, SameO (some { t := 5, sz := 1, exact := false, fz := false, body := Body.bytes y }) { t := 5, sz := 1, exact := false, fz := false, body := Body.bytes y }, EvXL Try.prog 0 (loopAt Try.prog 58 15) (GoalX.st (LoopX.G (plL a o m y (Ex.exit 4) (plE z))) 0) (LoopX.ex (plL a o m y (Ex.exit 4) (plE z))) (GoalX.st (LoopX.E (plL a o m y (Ex.exit 4) (plE z))) 0), decide ((↑(List.length z) : Int) > (1472 : Int)) = false]) := by kernel_rfl

set_option maxRecDepth 100000 in
theorem pq_step (id : Int) (fl : Int) (qs : List DQ) (a : List DR) (o : List DR) (m : List DR) (x : List UInt8) (i : Nat) : stepXS kPt [(58, { br := [(46, true)], ob := [(11, 0), (12, 2)] })] Try.prog 58 10 (pqG id fl qs a o m x i) (pqG id fl qs a o m (x ++ encQ (List.getD qs i dq0)) (i + 1)) [0, 11] 0 [] = some (.normal, [decide ((↑i : Int) < (↑(List.length qs) : Int)) = true, (0 : Int) ≤ (↑i : Int) ∧ (↑i : Int) < (↑(List.length qs) : Int), 1 = 1 ∧ List.length x = List.length x, AV.agg [AV.view 1 (List.length (List.getD qs (Int.toNat (↑i : Int)) dq0).1) fun i_1 => [AV.val (Value.string { data := List.toArray (List.getD (List.getD qs (Int.toNat (↑i : Int)) dq0).1 i_1 []) })], AV.val (Value.int IntKind.i64 (List.getD qs (Int.toNat (↑i : Int)) dq0).2), AV.val (Value.int IntKind.i64 (List.getD qs (Int.toNat (↑i : Int)) dq0).3)] = AV.agg [AV.view 1 (List.length (lsOf (AV.view 1 (List.length (List.getD qs (Int.toNat (↑i : Int)) dq0).1) fun i_1 => [AV.val (Value.string { data := List.toArray (List.getD (List.getD qs (Int.toNat (↑i : Int)) dq0).1 i_1 []) })]))) fun i_1 => [AV.val (Value.string { data := List.toArray (List.getD (lsOf (AV.view 1 (List.length (List.getD qs (Int.toNat (↑i : Int)) dq0).1) fun i_2 => [AV.val (Value.string { data := List.toArray (List.getD (List.getD qs (Int.toNat (↑i : Int)) dq0).1 i_2 []) })])) i_1 []) })], AV.val (Value.int IntKind.i64 (List.getD qs (Int.toNat (↑i : Int)) dq0).2), AV.val (Value.int IntKind.i64 (List.getD qs (Int.toNat (↑i : Int)) dq0).3)], List.length x ≤ 800000 ∧ lsK (lsOf (AV.view 1 (List.length (List.getD qs (Int.toNat (↑i : Int)) dq0).1) fun i_1 => [AV.val (Value.string { data := List.toArray (List.getD (List.getD qs (Int.toNat (↑i : Int)) dq0).1 i_1 []) })])) ∧ qOk (unDQ [AV.view 1 (List.length (List.getD qs (Int.toNat (↑i : Int)) dq0).1) fun i_1 => [AV.val (Value.string { data := List.toArray (List.getD (List.getD qs (Int.toNat (↑i : Int)) dq0).1 i_1 []) })], AV.val (Value.int IntKind.i64 (List.getD qs (Int.toNat (↑i : Int)) dq0).2), AV.val (Value.int IntKind.i64 (List.getD qs (Int.toNat (↑i : Int)) dq0).3)]) = true, (vQ qs) = vQ qs, AV.val (Value.int IntKind.i64 (↑(List.length qs) : Int)) = AV.val (Value.int IntKind.i64 (↑(List.length qs) : Int)), AV.val (Value.int IntKind.i64 (IntKind.wrap IntKind.i64 ((↑i : Int) + (1 : Int)))) = AV.val (Value.int IntKind.i64 (↑(i + 1) : Int)), AV.sl 11 0 (List.length (x ++ encQ (unDQ [AV.view 1 (List.length (List.getD qs (Int.toNat (↑i : Int)) dq0).1) fun i_1 => [AV.val (Value.string { data := List.toArray (List.getD (List.getD qs (Int.toNat (↑i : Int)) dq0).1 i_1 []) })], AV.val (Value.int IntKind.i64 (List.getD qs (Int.toNat (↑i : Int)) dq0).2), AV.val (Value.int IntKind.i64 (List.getD qs (Int.toNat (↑i : Int)) dq0).3)]))) none = AV.sl 11 0 (List.length (x ++ encQ (List.getD qs i dq0))) none, SameO (some { t := 36, sz := 6, exact := true, fz := false, body := Body.rows [[AV.val (Value.int IntKind.i64 id), AV.val (Value.int IntKind.i64 fl), vQ qs, vR a, vR o, vR m]] }) { t := 36, sz := 6, exact := true, fz := false, body := Body.rows [[AV.val (Value.int IntKind.i64 id), AV.val (Value.int IntKind.i64 fl), vQ qs, vR a, vR o, vR m]] }, SameO (some { t := 5, sz := 1, exact := false, fz := false, body := Body.bytes (x ++ encQ (unDQ [AV.view 1 (List.length (List.getD qs (Int.toNat (↑i : Int)) dq0).1) fun i_1 => [AV.val (Value.string { data := List.toArray (List.getD (List.getD qs (Int.toNat (↑i : Int)) dq0).1 i_1 []) })], AV.val (Value.int IntKind.i64 (List.getD qs (Int.toNat (↑i : Int)) dq0).2), AV.val (Value.int IntKind.i64 (List.getD qs (Int.toNat (↑i : Int)) dq0).3)])) }) { t := 5, sz := 1, exact := false, fz := false, body := Body.bytes (x ++ encQ (List.getD qs i dq0)) }]) := by kernel_rfl

set_option maxRecDepth 100000 in
theorem pq_end (id : Int) (fl : Int) (qs : List DQ) (a : List DR) (o : List DR) (m : List DR) (x : List UInt8) (i : Nat) : stepXS kPt [(58, { br := [(46, false)] })] Try.prog 58 10 (pqG id fl qs a o m x i) (pqE id fl qs a o m x) [0, 1] 0 [] = some (.exit 2, [decide ((↑i : Int) < (↑(List.length qs) : Int)) = false, AV.sl 1 0 (List.length x) none = AV.sl 1 0 (List.length x) none, SameO (some { t := 36, sz := 6, exact := true, fz := false, body := Body.rows [[AV.val (Value.int IntKind.i64 id), AV.val (Value.int IntKind.i64 fl), vQ qs, vR a, vR o, vR m]] }) { t := 36, sz := 6, exact := true, fz := false, body := Body.rows [[AV.val (Value.int IntKind.i64 id), AV.val (Value.int IntKind.i64 fl), vQ qs, vR a, vR o, vR m]] }, SameO (some { t := 5, sz := 1, exact := false, fz := false, body := Body.bytes x }) { t := 5, sz := 1, exact := false, fz := false, body := Body.bytes x }]) := by kernel_rfl

set_option maxRecDepth 100000 in
theorem pl_step0 (a : List DR) (o : List DR) (m : List DR) (x : List UInt8) (y : List UInt8) : stepXS kPt [] Try.prog 58 15 (plG a o m x 0) (plG a o m y 1) [0, 1] 0 [(18, piL a o m x 0 a (Ex.exit 6) (plG a o m y 0))] = some (.normal, [AV.val (Value.int IntKind.i64 (0 : Int)) = AV.val (Value.int IntKind.i64 (0 : Int)), (vR a) = vR a, AV.val (Value.int IntKind.i64 (↑(List.length a) : Int)) = AV.val (Value.int IntKind.i64 (↑(List.length a) : Int)), AV.val (Value.int IntKind.i64 (0 : Int)) = AV.val (Value.int IntKind.i64 (0 : Int)), AV.sl 1 0 (List.length x) none = AV.sl 1 0 (List.length x) none, SameO (some { t := 34, sz := 1, exact := true, fz := false, body := Body.rows [[vR a], [vR o], [vR m]] }) { t := 34, sz := 1, exact := true, fz := false, body := Body.rows [[vR a], [vR o], [vR m]] }, SameO (some { t := 5, sz := 1, exact := false, fz := false, body := Body.bytes x }) { t := 5, sz := 1, exact := false, fz := false, body := Body.bytes x }, EvXL Try.prog 0 (loopAt Try.prog 58 18) (GoalX.st (LoopX.G (piL a o m x 0 a (Ex.exit 6) (plG a o m y 0))) 0) (LoopX.ex (piL a o m x 0 a (Ex.exit 6) (plG a o m y 0))) (GoalX.st (LoopX.E (piL a o m x 0 a (Ex.exit 6) (plG a o m y 0))) 0), AV.val (Value.int IntKind.i64 (1 : Int)) = AV.val (Value.int IntKind.i64 (1 : Int)), AV.sl 1 0 (List.length y) none = AV.sl 1 0 (List.length y) none, SameO (some { t := 34, sz := 1, exact := true, fz := false, body := Body.rows [[vR a], [vR o], [vR m]] }) { t := 34, sz := 1, exact := true, fz := false, body := Body.rows [[vR a], [vR o], [vR m]] }, SameO (some { t := 5, sz := 1, exact := false, fz := false, body := Body.bytes y }) { t := 5, sz := 1, exact := false, fz := false, body := Body.bytes y }]) := by kernel_rfl

set_option maxRecDepth 100000 in
theorem pl_b0 (a : List DR) (o : List DR) (m : List DR) (x : List UInt8) : stepXS kPt [] Try.prog 58 15 (plG a o m x 0) (plN) [] 0 [(18, piL a o m x 0 a Ex.ret plN)] = some (.ret, [AV.val (Value.int IntKind.i64 (0 : Int)) = AV.val (Value.int IntKind.i64 (0 : Int)), (vR a) = vR a, AV.val (Value.int IntKind.i64 (↑(List.length a) : Int)) = AV.val (Value.int IntKind.i64 (↑(List.length a) : Int)), AV.val (Value.int IntKind.i64 (0 : Int)) = AV.val (Value.int IntKind.i64 (0 : Int)), AV.sl 1 0 (List.length x) none = AV.sl 1 0 (List.length x) none, SameO (some { t := 34, sz := 1, exact := true, fz := false, body := Body.rows [[vR a], [vR o], [vR m]] }) { t := 34, sz := 1, exact := true, fz := false, body := Body.rows [[vR a], [vR o], [vR m]] }, SameO (some { t := 5, sz := 1, exact := false, fz := false, body := Body.bytes x }) { t := 5, sz := 1, exact := false, fz := false, body := Body.bytes x }, EvXL Try.prog 0 (loopAt Try.prog 58 18) (GoalX.st (LoopX.G (piL a o m x 0 a Ex.ret plN)) 0) (LoopX.ex (piL a o m x 0 a Ex.ret plN)) (GoalX.st (LoopX.E (piL a o m x 0 a Ex.ret plN)) 0)]) := by kernel_rfl

set_option maxRecDepth 100000 in
theorem pl_step1 (a : List DR) (o : List DR) (m : List DR) (x : List UInt8) (y : List UInt8) : stepXS kPt [] Try.prog 58 15 (plG a o m x 1) (plG a o m y 2) [0, 1] 0 [(18, piL a o m x 1 o (Ex.exit 6) (plG a o m y 1))] = some (.normal, [AV.val (Value.int IntKind.i64 (1 : Int)) = AV.val (Value.int IntKind.i64 (1 : Int)), (vR o) = vR o, AV.val (Value.int IntKind.i64 (↑(List.length o) : Int)) = AV.val (Value.int IntKind.i64 (↑(List.length o) : Int)), AV.val (Value.int IntKind.i64 (0 : Int)) = AV.val (Value.int IntKind.i64 (0 : Int)), AV.sl 1 0 (List.length x) none = AV.sl 1 0 (List.length x) none, SameO (some { t := 34, sz := 1, exact := true, fz := false, body := Body.rows [[vR a], [vR o], [vR m]] }) { t := 34, sz := 1, exact := true, fz := false, body := Body.rows [[vR a], [vR o], [vR m]] }, SameO (some { t := 5, sz := 1, exact := false, fz := false, body := Body.bytes x }) { t := 5, sz := 1, exact := false, fz := false, body := Body.bytes x }, EvXL Try.prog 0 (loopAt Try.prog 58 18) (GoalX.st (LoopX.G (piL a o m x 1 o (Ex.exit 6) (plG a o m y 1))) 0) (LoopX.ex (piL a o m x 1 o (Ex.exit 6) (plG a o m y 1))) (GoalX.st (LoopX.E (piL a o m x 1 o (Ex.exit 6) (plG a o m y 1))) 0), AV.val (Value.int IntKind.i64 (2 : Int)) = AV.val (Value.int IntKind.i64 (2 : Int)), AV.sl 1 0 (List.length y) none = AV.sl 1 0 (List.length y) none, SameO (some { t := 34, sz := 1, exact := true, fz := false, body := Body.rows [[vR a], [vR o], [vR m]] }) { t := 34, sz := 1, exact := true, fz := false, body := Body.rows [[vR a], [vR o], [vR m]] }, SameO (some { t := 5, sz := 1, exact := false, fz := false, body := Body.bytes y }) { t := 5, sz := 1, exact := false, fz := false, body := Body.bytes y }]) := by kernel_rfl

set_option maxRecDepth 100000 in
theorem pl_b1 (a : List DR) (o : List DR) (m : List DR) (x : List UInt8) : stepXS kPt [] Try.prog 58 15 (plG a o m x 1) (plN) [] 0 [(18, piL a o m x 1 o Ex.ret plN)] = some (.ret, [AV.val (Value.int IntKind.i64 (1 : Int)) = AV.val (Value.int IntKind.i64 (1 : Int)), (vR o) = vR o, AV.val (Value.int IntKind.i64 (↑(List.length o) : Int)) = AV.val (Value.int IntKind.i64 (↑(List.length o) : Int)), AV.val (Value.int IntKind.i64 (0 : Int)) = AV.val (Value.int IntKind.i64 (0 : Int)), AV.sl 1 0 (List.length x) none = AV.sl 1 0 (List.length x) none, SameO (some { t := 34, sz := 1, exact := true, fz := false, body := Body.rows [[vR a], [vR o], [vR m]] }) { t := 34, sz := 1, exact := true, fz := false, body := Body.rows [[vR a], [vR o], [vR m]] }, SameO (some { t := 5, sz := 1, exact := false, fz := false, body := Body.bytes x }) { t := 5, sz := 1, exact := false, fz := false, body := Body.bytes x }, EvXL Try.prog 0 (loopAt Try.prog 58 18) (GoalX.st (LoopX.G (piL a o m x 1 o Ex.ret plN)) 0) (LoopX.ex (piL a o m x 1 o Ex.ret plN)) (GoalX.st (LoopX.E (piL a o m x 1 o Ex.ret plN)) 0)]) := by kernel_rfl

set_option maxRecDepth 100000 in
theorem pl_step2 (a : List DR) (o : List DR) (m : List DR) (x : List UInt8) (y : List UInt8) : stepXS kPt [] Try.prog 58 15 (plG a o m x 2) (plG a o m y 3) [0, 1] 0 [(18, piL a o m x 2 m (Ex.exit 6) (plG a o m y 2))] = some (.normal, [AV.val (Value.int IntKind.i64 (2 : Int)) = AV.val (Value.int IntKind.i64 (2 : Int)), (vR m) = vR m, AV.val (Value.int IntKind.i64 (↑(List.length m) : Int)) = AV.val (Value.int IntKind.i64 (↑(List.length m) : Int)), AV.val (Value.int IntKind.i64 (0 : Int)) = AV.val (Value.int IntKind.i64 (0 : Int)), AV.sl 1 0 (List.length x) none = AV.sl 1 0 (List.length x) none, SameO (some { t := 34, sz := 1, exact := true, fz := false, body := Body.rows [[vR a], [vR o], [vR m]] }) { t := 34, sz := 1, exact := true, fz := false, body := Body.rows [[vR a], [vR o], [vR m]] }, SameO (some { t := 5, sz := 1, exact := false, fz := false, body := Body.bytes x }) { t := 5, sz := 1, exact := false, fz := false, body := Body.bytes x }, EvXL Try.prog 0 (loopAt Try.prog 58 18) (GoalX.st (LoopX.G (piL a o m x 2 m (Ex.exit 6) (plG a o m y 2))) 0) (LoopX.ex (piL a o m x 2 m (Ex.exit 6) (plG a o m y 2))) (GoalX.st (LoopX.E (piL a o m x 2 m (Ex.exit 6) (plG a o m y 2))) 0), AV.val (Value.int IntKind.i64 (3 : Int)) = AV.val (Value.int IntKind.i64 (3 : Int)), AV.sl 1 0 (List.length y) none = AV.sl 1 0 (List.length y) none, SameO (some { t := 34, sz := 1, exact := true, fz := false, body := Body.rows [[vR a], [vR o], [vR m]] }) { t := 34, sz := 1, exact := true, fz := false, body := Body.rows [[vR a], [vR o], [vR m]] }, SameO (some { t := 5, sz := 1, exact := false, fz := false, body := Body.bytes y }) { t := 5, sz := 1, exact := false, fz := false, body := Body.bytes y }]) := by kernel_rfl

set_option maxRecDepth 100000 in
theorem pl_b2 (a : List DR) (o : List DR) (m : List DR) (x : List UInt8) : stepXS kPt [] Try.prog 58 15 (plG a o m x 2) (plN) [] 0 [(18, piL a o m x 2 m Ex.ret plN)] = some (.ret, [AV.val (Value.int IntKind.i64 (2 : Int)) = AV.val (Value.int IntKind.i64 (2 : Int)), (vR m) = vR m, AV.val (Value.int IntKind.i64 (↑(List.length m) : Int)) = AV.val (Value.int IntKind.i64 (↑(List.length m) : Int)), AV.val (Value.int IntKind.i64 (0 : Int)) = AV.val (Value.int IntKind.i64 (0 : Int)), AV.sl 1 0 (List.length x) none = AV.sl 1 0 (List.length x) none, SameO (some { t := 34, sz := 1, exact := true, fz := false, body := Body.rows [[vR a], [vR o], [vR m]] }) { t := 34, sz := 1, exact := true, fz := false, body := Body.rows [[vR a], [vR o], [vR m]] }, SameO (some { t := 5, sz := 1, exact := false, fz := false, body := Body.bytes x }) { t := 5, sz := 1, exact := false, fz := false, body := Body.bytes x }, EvXL Try.prog 0 (loopAt Try.prog 58 18) (GoalX.st (LoopX.G (piL a o m x 2 m Ex.ret plN)) 0) (LoopX.ex (piL a o m x 2 m Ex.ret plN)) (GoalX.st (LoopX.E (piL a o m x 2 m Ex.ret plN)) 0)]) := by kernel_rfl

set_option maxRecDepth 100000 in
theorem pl_end (a : List DR) (o : List DR) (m : List DR) (x : List UInt8) : stepXS kPt [] Try.prog 58 15 (plG a o m x 3) (plE x) [1] 0 [] = some (.exit 4, [AV.sl 1 0 (List.length x) none = AV.sl 1 0 (List.length x) none, SameO (some { t := 5, sz := 1, exact := false, fz := false, body := Body.bytes x }) { t := 5, sz := 1, exact := false, fz := false, body := Body.bytes x }]) := by kernel_rfl

set_option maxRecDepth 100000 in
theorem pi_step (a : List DR) (o : List DR) (m : List DR) (x : List UInt8) (j : Nat) (rs : List DR) (i : Nat) : stepXS kPt [(58, { br := [(68, true), (76, false)], ob := [(19, 0), (20, 2)] })] Try.prog 58 18 (piG a o m x j rs i) (piG a o m (x ++ encR (List.getD rs i dr0)) j rs (i + 1)) [0, 11] 0 [] = some (.normal, [decide ((↑i : Int) < (↑(List.length rs) : Int)) = true, (0 : Int) ≤ (↑i : Int) ∧ (↑i : Int) < (↑(List.length rs) : Int), 1 = 1 ∧ List.length x = List.length x, AV.agg [AV.view 1 (List.length (List.getD rs (Int.toNat (↑i : Int)) dr0).1) fun i_1 => [AV.val (Value.string { data := List.toArray (List.getD (List.getD rs (Int.toNat (↑i : Int)) dr0).1 i_1 []) })], AV.val (Value.int IntKind.i64 (List.getD rs (Int.toNat (↑i : Int)) dr0).2), AV.val (Value.int IntKind.i64 (List.getD rs (Int.toNat (↑i : Int)) dr0).3), AV.val (Value.int IntKind.u32 (List.getD rs (Int.toNat (↑i : Int)) dr0).4), AV.bytes (List.getD rs (Int.toNat (↑i : Int)) dr0).5] = AV.agg [AV.view 1 (List.length (lsOf (AV.view 1 (List.length (List.getD rs (Int.toNat (↑i : Int)) dr0).1) fun i_1 => [AV.val (Value.string { data := List.toArray (List.getD (List.getD rs (Int.toNat (↑i : Int)) dr0).1 i_1 []) })]))) fun i_1 => [AV.val (Value.string { data := List.toArray (List.getD (lsOf (AV.view 1 (List.length (List.getD rs (Int.toNat (↑i : Int)) dr0).1) fun i_2 => [AV.val (Value.string { data := List.toArray (List.getD (List.getD rs (Int.toNat (↑i : Int)) dr0).1 i_2 []) })])) i_1 []) })], AV.val (Value.int IntKind.i64 (List.getD rs (Int.toNat (↑i : Int)) dr0).2), AV.val (Value.int IntKind.i64 (List.getD rs (Int.toNat (↑i : Int)) dr0).3), AV.val (Value.int IntKind.u32 (List.getD rs (Int.toNat (↑i : Int)) dr0).4), AV.bytes (List.getD rs (Int.toNat (↑i : Int)) dr0).5], rcK x (unDR [AV.view 1 (List.length (List.getD rs (Int.toNat (↑i : Int)) dr0).1) fun i_1 => [AV.val (Value.string { data := List.toArray (List.getD (List.getD rs (Int.toNat (↑i : Int)) dr0).1 i_1 []) })], AV.val (Value.int IntKind.i64 (List.getD rs (Int.toNat (↑i : Int)) dr0).2), AV.val (Value.int IntKind.i64 (List.getD rs (Int.toNat (↑i : Int)) dr0).3), AV.val (Value.int IntKind.u32 (List.getD rs (Int.toNat (↑i : Int)) dr0).4), AV.bytes (List.getD rs (Int.toNat (↑i : Int)) dr0).5]), decide ((↑(List.length (x ++ encR (unDR [AV.view 1 (List.length (List.getD rs (Int.toNat (↑i : Int)) dr0).1) fun i_1 => [AV.val (Value.string { data := List.toArray (List.getD (List.getD rs (Int.toNat (↑i : Int)) dr0).1 i_1 []) })], AV.val (Value.int IntKind.i64 (List.getD rs (Int.toNat (↑i : Int)) dr0).2), AV.val (Value.int IntKind.i64 (List.getD rs (Int.toNat (↑i : Int)) dr0).3), AV.val (Value.int IntKind.u32 (List.getD rs (Int.toNat (↑i : Int)) dr0).4), AV.bytes (List.getD rs (Int.toNat (↑i : Int)) dr0).5]))) : Int) > (1472 : Int)) = false, AV.val (Value.int IntKind.i64 (↑j : Int)) = AV.val (Value.int IntKind.i64 (↑j : Int)), (vR rs) = vR rs, AV.val (Value.int IntKind.i64 (↑(List.length rs) : Int)) = AV.val (Value.int IntKind.i64 (↑(List.length rs) : Int)), AV.val (Value.int IntKind.i64 (IntKind.wrap IntKind.i64 ((↑i : Int) + (1 : Int)))) = AV.val (Value.int IntKind.i64 (↑(i + 1) : Int)), AV.sl 11 0 (List.length (x ++ encR (unDR [AV.view 1 (List.length (List.getD rs (Int.toNat (↑i : Int)) dr0).1) fun i_1 => [AV.val (Value.string { data := List.toArray (List.getD (List.getD rs (Int.toNat (↑i : Int)) dr0).1 i_1 []) })], AV.val (Value.int IntKind.i64 (List.getD rs (Int.toNat (↑i : Int)) dr0).2), AV.val (Value.int IntKind.i64 (List.getD rs (Int.toNat (↑i : Int)) dr0).3), AV.val (Value.int IntKind.u32 (List.getD rs (Int.toNat (↑i : Int)) dr0).4), AV.bytes (List.getD rs (Int.toNat (↑i : Int)) dr0).5]))) none = AV.sl 11 0 (List.length (x ++ encR (List.getD rs i dr0))) none, SameO (some { t := 34, sz := 1, exact := true, fz := false, body := Body.rows [[vR a], [vR o], [vR m]] }) { t := 34, sz := 1, exact := true, fz := false, body := Body.rows [[vR a], [vR o], [vR m]] }, SameO (some { t := 5, sz := 1, exact := false, fz := false, body := Body.bytes (x ++ encR (unDR [AV.view 1 (List.length (List.getD rs (Int.toNat (↑i : Int)) dr0).1) fun i_1 => [AV.val (Value.string { data := List.toArray (List.getD (List.getD rs (Int.toNat (↑i : Int)) dr0).1 i_1 []) })], AV.val (Value.int IntKind.i64 (List.getD rs (Int.toNat (↑i : Int)) dr0).2), AV.val (Value.int IntKind.i64 (List.getD rs (Int.toNat (↑i : Int)) dr0).3), AV.val (Value.int IntKind.u32 (List.getD rs (Int.toNat (↑i : Int)) dr0).4), AV.bytes (List.getD rs (Int.toNat (↑i : Int)) dr0).5])) }) { t := 5, sz := 1, exact := false, fz := false, body := Body.bytes (x ++ encR (List.getD rs i dr0)) }]) := by kernel_rfl

set_option maxRecDepth 100000 in
theorem pi_b (a : List DR) (o : List DR) (m : List DR) (x : List UInt8) (j : Nat) (rs : List DR) (i : Nat) : stepXS kPt [(58, { br := [(68, true), (76, true)], ob := [(19, 0), (20, 2)] })] Try.prog 58 18 (piG a o m x j rs i) (plN) [] 0 [] = some (.ret, [decide ((↑i : Int) < (↑(List.length rs) : Int)) = true, (0 : Int) ≤ (↑i : Int) ∧ (↑i : Int) < (↑(List.length rs) : Int), 1 = 1 ∧ List.length x = List.length x, AV.agg [AV.view 1 (List.length (List.getD rs (Int.toNat (↑i : Int)) dr0).1) fun i_1 => [AV.val (Value.string { data := List.toArray (List.getD (List.getD rs (Int.toNat (↑i : Int)) dr0).1 i_1 []) })], AV.val (Value.int IntKind.i64 (List.getD rs (Int.toNat (↑i : Int)) dr0).2), AV.val (Value.int IntKind.i64 (List.getD rs (Int.toNat (↑i : Int)) dr0).3), AV.val (Value.int IntKind.u32 (List.getD rs (Int.toNat (↑i : Int)) dr0).4), AV.bytes (List.getD rs (Int.toNat (↑i : Int)) dr0).5] = AV.agg [AV.view 1 (List.length (lsOf (AV.view 1 (List.length (List.getD rs (Int.toNat (↑i : Int)) dr0).1) fun i_1 => [AV.val (Value.string { data := List.toArray (List.getD (List.getD rs (Int.toNat (↑i : Int)) dr0).1 i_1 []) })]))) fun i_1 => [AV.val (Value.string { data := List.toArray (List.getD (lsOf (AV.view 1 (List.length (List.getD rs (Int.toNat (↑i : Int)) dr0).1) fun i_2 => [AV.val (Value.string { data := List.toArray (List.getD (List.getD rs (Int.toNat (↑i : Int)) dr0).1 i_2 []) })])) i_1 []) })], AV.val (Value.int IntKind.i64 (List.getD rs (Int.toNat (↑i : Int)) dr0).2), AV.val (Value.int IntKind.i64 (List.getD rs (Int.toNat (↑i : Int)) dr0).3), AV.val (Value.int IntKind.u32 (List.getD rs (Int.toNat (↑i : Int)) dr0).4), AV.bytes (List.getD rs (Int.toNat (↑i : Int)) dr0).5], rcK x (unDR [AV.view 1 (List.length (List.getD rs (Int.toNat (↑i : Int)) dr0).1) fun i_1 => [AV.val (Value.string { data := List.toArray (List.getD (List.getD rs (Int.toNat (↑i : Int)) dr0).1 i_1 []) })], AV.val (Value.int IntKind.i64 (List.getD rs (Int.toNat (↑i : Int)) dr0).2), AV.val (Value.int IntKind.i64 (List.getD rs (Int.toNat (↑i : Int)) dr0).3), AV.val (Value.int IntKind.u32 (List.getD rs (Int.toNat (↑i : Int)) dr0).4), AV.bytes (List.getD rs (Int.toNat (↑i : Int)) dr0).5]), decide ((↑(List.length (x ++ encR (unDR [AV.view 1 (List.length (List.getD rs (Int.toNat (↑i : Int)) dr0).1) fun i_1 => [AV.val (Value.string { data := List.toArray (List.getD (List.getD rs (Int.toNat (↑i : Int)) dr0).1 i_1 []) })], AV.val (Value.int IntKind.i64 (List.getD rs (Int.toNat (↑i : Int)) dr0).2), AV.val (Value.int IntKind.i64 (List.getD rs (Int.toNat (↑i : Int)) dr0).3), AV.val (Value.int IntKind.u32 (List.getD rs (Int.toNat (↑i : Int)) dr0).4), AV.bytes (List.getD rs (Int.toNat (↑i : Int)) dr0).5]))) : Int) > (1472 : Int)) = true]) := by kernel_rfl

set_option maxRecDepth 100000 in
theorem pi_end (a : List DR) (o : List DR) (m : List DR) (x : List UInt8) (j : Nat) (rs : List DR) (i : Nat) : stepXS kPt [(58, { br := [(68, false)] })] Try.prog 58 18 (piG a o m x j rs i) (plG a o m x j) [0, 1] 0 [] = some (.exit 6, [decide ((↑i : Int) < (↑(List.length rs) : Int)) = false, AV.val (Value.int IntKind.i64 (↑j : Int)) = AV.val (Value.int IntKind.i64 (↑j : Int)), AV.sl 1 0 (List.length x) none = AV.sl 1 0 (List.length x) none, SameO (some { t := 34, sz := 1, exact := true, fz := false, body := Body.rows [[vR a], [vR o], [vR m]] }) { t := 34, sz := 1, exact := true, fz := false, body := Body.rows [[vR a], [vR o], [vR m]] }, SameO (some { t := 5, sz := 1, exact := false, fz := false, body := Body.bytes x }) { t := 5, sz := 1, exact := false, fz := false, body := Body.bytes x }]) := by kernel_rfl
end Go.Proofs.Ytmilcpejchjleaa

/- A message that is written: what dns.Put yields. -/
namespace Go.Proofs.Ytmilcpejchjleaa
open Go.RowKit
set_option linter.unusedSimpArgs false
set_option linter.unusedVariables false

def encQs (qs : List DQ) : List UInt8 := qs.flatMap encQ
def encRs (rs : List DR) : List UInt8 := rs.flatMap encR
theorem encQ_len {q : DQ} (h : qOk q = true) : (encQ q).length ≤ 259 := by
  unfold qOk at h
  simp only [Bool.and_eq_true] at h
  have := encL_good h.2
  simp [encQ, be2_len]; omega
theorem encR_len {q : DR} (h : rOk q = true) : (encR q).length ≤ 70000 := by
  unfold rOk at h
  simp only [Bool.and_eq_true, decide_eq_true_eq] at h
  have := encL_good h.1.2
  have h4 := h.2
  simp [encR, be2_len, be4_len]; omega
def qOks (qs : List DQ) : Prop := (∀ q ∈ qs, qOk q = true ∧ lsK q.name)
def rOks (rs : List DR) : Prop := ∀ r ∈ rs, rOk r = true ∧ lsK r.name ∧ 0 ≤ r.ttl ∧ r.ttl ≤ 4294967295

theorem puO_same (x : List UInt8) : SameO (some (puO x)) (puO x) := rfl

theorem pq_loop (id fl : Int) (qs : List DQ) (a o m : List DR) (hq : qOks qs) (hn : qs.length ≤ 64) : ∀ (rest : List DQ) (i : Nat) (x : List UInt8), qs.drop i = rest → x.length ≤ 100 + 300 * i →
    EvXL Try.prog 0 (loopAt Try.prog 58 10) ((pqG id fl qs a o m x i).st 0) (.exit 2) ((pqE id fl qs a o m (x ++ encQs rest)).st 0)
  | [], i, x, h, hx => by
    have hi : qs.length ≤ i := by simpa using h
    have e : x ++ encQs [] = x := by simp [encQs]
    rw [e]
    exact EvXL.last (stepXS_ok kPt_ok (pq_end id fl qs a o m x i) (by
      repeat' (first | exact allNil | refine allCons ?_ ?_ | (with_reducible refine allRp _ ?_ ?_))
      all_goals first | (with_reducible rfl) | exact decide_eq_false (by omega) | exact rfl)) (by simp)
  | q :: r, i, x, h, hx => by
    obtain ⟨hi, hg, hr⟩ := dropStepG (d := dq0) h
    obtain ⟨h1, h2⟩ := hq q (List.mem_of_mem_drop (h ▸ List.mem_cons_self ..))
    have hl := encQ_len h1
    have e : x ++ encQs (q :: r) = (x ++ encQ q) ++ encQs r := by simp [encQs]
    rw [e]
    refine EvXL.step (stepXS_ok kPt_ok (pq_step id fl qs a o m x i) ?_) (by
      rw [hg]
      exact pq_loop id fl qs a o m hq hn r (i + 1) _ hr (by rw [List.length_append]; omega))
    have un := unDQ_row q
    unfold vS sStr iI at un
    have en := lsOf_vS q.name
    unfold vS sStr at en
    simp only [Int.toNat_natCast, hg, un, en]
    repeat' (first | exact allNil | refine allCons ?_ ?_ | (with_reducible refine allRp _ ?_ ?_))
    all_goals first | (with_reducible rfl) | exact decide_eq_true (by omega) | exact True.intro | omega | exact sI_succ i (by omega) | exact ⟨by omega, h2, h1⟩ | exact ⟨rfl, rfl⟩ | exact ⟨True.intro, True.intro⟩ | exact rfl

/-- records written one behind another, as long as there is room -/
def putR : List UInt8 → List DR → Option (List UInt8)
  | x, [] => some x
  | x, r :: t => if 1472 < (x ++ encR r).length then none else putR (x ++ encR r) t
theorem putR_some : ∀ (rs : List DR) (x y : List UInt8), putR x rs = some y → y = x ++ encRs rs ∧ (rs ≠ [] → y.length ≤ 1472)
  | [], x, y, h => by
    simp only [putR, Option.some.injEq] at h
    exact ⟨by simp [encRs, h], fun h => absurd rfl h⟩
  | r :: t, x, y, h => by
    unfold putR at h
    split at h
    · cases h
    · rename_i hl
      obtain ⟨h1, h2⟩ := putR_some t _ y h
      refine ⟨by rw [h1]; simp [encRs], fun _ => ?_⟩
      by_cases ht : t = []
      · subst ht
        simp [encRs] at h1
        rw [h1]
        simp at hl ⊢
        omega
      · exact h2 ht
theorem putR_none : ∀ (rs : List DR) (x : List UInt8), putR x rs = none → 1472 < (x ++ encRs rs).length
  | [], x, h => by cases h
  | r :: t, x, h => by
    unfold putR at h
    split at h
    · rename_i hl
      simp [encRs] at hl ⊢
      omega
    · have := putR_none t _ h
      simpa [encRs] using this
def prX (e : Ex) : Option (List UInt8) → Ex
  | none => .ret
  | some _ => e
def prY (f : List UInt8 → GoalX) : Option (List UInt8) → GoalX
  | none => plN
  | some x => f x

theorem pi_loop (a o m : List DR) (j : Nat) (rs : List DR) (hr : rOks rs) (hn : rs.length ≤ 64) : ∀ (rest : List DR) (i : Nat) (x : List UInt8), rs.drop i = rest → x.length ≤ 30000 →
    EvXL Try.prog 0 (loopAt Try.prog 58 18) ((piG a o m x j rs i).st 0) (prX (.exit 6) (putR x rest)) ((prY (fun x => plG a o m x j) (putR x rest)).st 0)
  | [], i, x, h, hx => by
    have hi : rs.length ≤ i := by simpa using h
    exact EvXL.last (stepXS_ok kPt_ok (pi_end a o m x j rs i) (by
      repeat' (first | exact allNil | refine allCons ?_ ?_ | (with_reducible refine allRp _ ?_ ?_))
      all_goals first | (with_reducible rfl) | exact decide_eq_false (by omega) | exact rfl)) (by simp [putR, prX])
  | q :: r, i, x, h, hx => by
    obtain ⟨hi, hg, hr'⟩ := dropStepG (d := dr0) h
    obtain ⟨h1, h2, h3⟩ := hr q (List.mem_of_mem_drop (h ▸ List.mem_cons_self ..))
    have hl := encR_len h1
    have un := unDR_row q
    unfold vS sStr iI iU at un
    have en := lsOf_vS q.name
    unfold vS sStr at en
    have hrc : rcK x q := ⟨by omega, h2, h1, h3⟩
    unfold putR
    by_cases hb : 1472 < (x ++ encR q).length
    · rw [if_pos hb]
      refine EvXL.last (stepXS_ok kPt_ok (pi_b a o m x j rs i) ?_) (by simp [prX])
      simp only [Int.toNat_natCast, hg, un, en]
      repeat' (first | exact allNil | refine allCons ?_ ?_ | (with_reducible refine allRp _ ?_ ?_))
      all_goals first | (with_reducible rfl) | exact decide_eq_true (by omega) | exact True.intro | omega | exact sI_succ i (by omega) | exact hrc | exact ⟨rfl, rfl⟩ | exact ⟨True.intro, True.intro⟩ | exact rfl
    · rw [if_neg hb]
      refine EvXL.step (stepXS_ok kPt_ok (pi_step a o m x j rs i) ?_) (by
        rw [hg]
        exact pi_loop a o m j rs hr hn r (i + 1) _ hr' (by omega))
      simp only [Int.toNat_natCast, hg, un, en]
      repeat' (first | exact allNil | refine allCons ?_ ?_ | (with_reducible refine allRp _ ?_ ?_))
      all_goals first | (with_reducible rfl) | exact decide_eq_true (by omega) | exact decide_eq_false (by omega) | exact True.intro | omega | exact sI_succ i (by omega) | exact hrc | exact ⟨rfl, rfl⟩ | exact ⟨True.intro, True.intro⟩ | exact rfl
end Go.Proofs.Ytmilcpejchjleaa

/- A message that is written: dns.Put as a known function. -/
namespace Go.Proofs.Ytmilcpejchjleaa
open Go.RowKit
set_option linter.unusedSimpArgs false
set_option linter.unusedVariables false

def ttlK (rs : List DR) : Prop := ∀ i, 0 ≤ (rs.getD i dr0).ttl ∧ (rs.getD i dr0).ttl ≤ 4294967295
def puts3 (x : List UInt8) (a o m : List DR) : Option (List UInt8) := (putR x a).bind fun y => (putR y o).bind fun z => putR z m
def bytM (id fl : Int) (qs : List DQ) (a o m : List DR) : List UInt8 := headM id fl qs.length a.length o.length m.length ++ encQs qs ++ encRs a ++ encRs o ++ encRs m

theorem putR_le {rs : List DR} {x y : List UInt8} (h : putR x rs = some y) (hx : x.length ≤ 30000) : y.length ≤ 30000 := by
  obtain ⟨h1, h2⟩ := putR_some rs x y h
  by_cases hr : rs = []
  · subst hr
    rw [h1]; simpa [encRs] using hx
  · have := h2 hr
    omega

theorem pl_loop (a o m : List DR) (ha : rOks a) (ho : rOks o) (hm : rOks m) (na : a.length ≤ 64) (no : o.length ≤ 64) (nm : m.length ≤ 64) (x : List UInt8) (hx : x.length ≤ 30000) :
    EvXL Try.prog 0 (loopAt Try.prog 58 15) ((plG a o m x 0).st 0) (prX (.exit 4) (puts3 x a o m)) ((prY plE (puts3 x a o m)).st 0) := by
  unfold puts3
  have h0 := pi_loop a o m 0 a ha na a 0 x rfl hx

  cases b0 : putR x a with
  | none =>
    rw [b0] at h0
    exact EvXL.last (stepXS_ok kPt_ok (pl_b0 a o m x) (by
      repeat' (first | exact allNil | refine allCons ?_ ?_ | (with_reducible refine allRp _ ?_ ?_))
      all_goals first | (with_reducible rfl) | exact h0 | exact rfl)) (by simp [prX])
  | some y =>
  rw [b0] at h0
  simp only [Option.bind_some]
  refine EvXL.step (stepXS_ok kPt_ok (pl_step0 a o m x y) (by
    repeat' (first | exact allNil | refine allCons ?_ ?_ | (with_reducible refine allRp _ ?_ ?_))
    all_goals first | (with_reducible rfl) | exact h0 | exact rfl)) ?_
  have hy := putR_le b0 hx
  have h1 := pi_loop a o m 1 o ho no o 0 y rfl hy
  cases b1 : putR y o with
  | none =>
    rw [b1] at h1
    exact EvXL.last (stepXS_ok kPt_ok (pl_b1 a o m y) (by
      repeat' (first | exact allNil | refine allCons ?_ ?_ | (with_reducible refine allRp _ ?_ ?_))
      all_goals first | (with_reducible rfl) | exact h1 | exact rfl)) (by simp [prX])
  | some z =>
  rw [b1] at h1
  simp only [Option.bind_some]
  refine EvXL.step (stepXS_ok kPt_ok (pl_step1 a o m y z) (by
    repeat' (first | exact allNil | refine allCons ?_ ?_ | (with_reducible refine allRp _ ?_ ?_))
    all_goals first | (with_reducible rfl) | exact h1 | exact rfl)) ?_
  have hz := putR_le b1 hy
  have h2 := pi_loop a o m 2 m hm nm m 0 z rfl hz
  cases b2 : putR z m with
  | none =>
    rw [b2] at h2
    exact EvXL.last (stepXS_ok kPt_ok (pl_b2 a o m z) (by
      repeat' (first | exact allNil | refine allCons ?_ ?_ | (with_reducible refine allRp _ ?_ ?_))
      all_goals first | (with_reducible rfl) | exact h2 | exact rfl)) (by simp [prX])
  | some w =>
  rw [b2] at h2
  refine EvXL.step (stepXS_ok kPt_ok (pl_step2 a o m z w) (by
    repeat' (first | exact allNil | refine allCons ?_ ?_ | (with_reducible refine allRp _ ?_ ?_))
    all_goals first | (with_reducible rfl) | exact h2 | exact rfl)) ?_
  exact EvXL.last (stepXS_ok kPt_ok (pl_end a o m w) (by
    repeat' (first | exact allNil | refine allCons ?_ ?_ | (with_reducible refine allRp _ ?_ ?_))
    all_goals first | (with_reducible rfl) | exact rfl)) (by simp [prX])

theorem puts3_some {x w : List UInt8} {a o m : List DR} (h : puts3 x a o m = some w) : w = x ++ encRs a ++ encRs o ++ encRs m := by
  unfold puts3 at h
  cases b0 : putR x a with
  | none => rw [b0] at h; cases h
  | some y =>
    rw [b0] at h
    simp only [Option.bind_some] at h
    cases b1 : putR y o with
    | none => rw [b1] at h; cases h
    | some z =>
      rw [b1] at h
      simp only [Option.bind_some] at h
      rw [(putR_some m z w h).1, (putR_some o y z b1).1, (putR_some a x y b0).1]
theorem puts3_none {x : List UInt8} {a o m : List DR} (h : puts3 x a o m = none) : 1472 < (x ++ encRs a ++ encRs o ++ encRs m).length := by
  unfold puts3 at h
  cases b0 : putR x a with
  | none =>
    have := putR_none a x b0
    simp at this ⊢
    omega
  | some y =>
    rw [b0] at h
    simp only [Option.bind_some] at h
    have e0 := (putR_some a x y b0).1
    cases b1 : putR y o with
    | none =>
      have := putR_none o y b1
      rw [e0] at this
      simp at this ⊢
      omega
    | some z =>
      rw [b1] at h
      simp only [Option.bind_some] at h
      have := putR_none m z h
      rw [(putR_some o y z b1).1, e0] at this
      exact this

theorem gdM_parts {id fl : Int} {qs : List DQ} {a o m : List DR} (h : gdM id fl qs a o m = true) (hq : qK qs) (ha : rK a) (ho : rK o) (hm : rK m) (ta : ttlK a) (tO : ttlK o) (tm : ttlK m) :
    pairB id = true ∧ pairB fl = true ∧ qs.length + a.length + o.length + m.length ≤ 64 ∧ qOks qs ∧ rOks a ∧ rOks o ∧ rOks m := by
  unfold gdM rBad at h
  simp only [Bool.and_eq_true, decide_eq_true_eq, Bool.not_eq_true', Bool.or_eq_false_iff, List.any_eq_false, Bool.not_eq_true', Bool.not_eq_false] at h
  obtain ⟨h1, h2, h3, h4, ⟨h5, h6⟩, h7⟩ := h
  have hr : ∀ rs : List DR, rK rs → ttlK rs → (∀ x ∈ rs, rOk x = true) → rOks rs := fun rs hk ht hh r hr => by
    obtain ⟨i, hi, rfl⟩ := List.mem_iff_getElem.1 hr
    have k1 := (hk.2 i).1
    have k2 := ht i
    rw [getR hi] at k1 k2
    exact ⟨hh _ hr, k1, k2⟩
  refine ⟨h1, h2, h3, fun q hq' => ?_, hr a ha ta ?_, hr o ho tO ?_, hr m hm tm ?_⟩
  · obtain ⟨i, hi, rfl⟩ := List.mem_iff_getElem.1 hq'
    have k1 := hq.2 i
    rw [getQ hi] at k1
    refine ⟨?_, k1⟩
    simpa using h4 _ hq'
  · intro x hx; simpa using h5 x hx
  · intro x hx; simpa using h6 x hx
  · intro x hx; simpa using h7 x hx

theorem encQs_len {qs : List DQ} (h : qOks qs) : (encQs qs).length ≤ 259 * qs.length := by
  induction qs with
  | nil => simp [encQs]
  | cons q r ih =>
    have h1 := encQ_len (h q (List.mem_cons_self ..)).1
    have h2 := ih fun x hx => h x (List.mem_cons_of_mem _ hx)
    have e : encQs (q :: r) = encQ q ++ encQs r := by simp [encQs]
    rw [e, List.length_append, List.length_cons]
    omega

section
variable (id fl : Int) (qs : List DQ) (a o m : List DR) (hq : qK qs) (ha : rK a) (ho : rK o) (hm : rK m) (ta : ttlK a) (tO : ttlK o) (tm : ttlK m)
include hq ha ho hm

set_option maxRecDepth 20000 in
theorem put_bad_m (hg : gdM id fl qs a o m = false) : ACall Try.prog 58 [msgA id fl qs a o m] [] 0 (.tup [nilS, iI 1]) [] 50 := by
  have eq := ofVQ_v qs
  have ea := ofVR_v a
  have eo := ofVR_v o
  have em := ofVR_v m
  refine (outXS_ok kPt_ok (ptm_bad id fl qs a o m) ?_).upTo (by decide)
  simp only [eq, ea, eo, em]
  repeat' (first | exact allNil | refine allCons ?_ ?_ | (with_reducible refine allRp _ ?_ ?_))
  all_goals first | (with_reducible rfl) | exact True.intro | exact hq | exact ha | exact ho | exact hm | (rw [hg]; rfl) | exact rfl

include ta tO tm
set_option maxRecDepth 20000 in
theorem put_walk_m (hg : gdM id fl qs a o m = true) :
    (1472 < (bytM id fl qs a o m).length → ACall Try.prog 58 [msgA id fl qs a o m] [] 0 (.tup [nilS, iI 2]) [] 50) ∧
    ((bytM id fl qs a o m).length ≤ 1472 → ACall Try.prog 58 [msgA id fl qs a o m] [] 0 (.tup [.sl 0 0 (bytM id fl qs a o m).length none, iI 0]) [(0, puO (bytM id fl qs a o m))] 50) := by
  obtain ⟨p1, p2, p3, p4, p5, p6, p7⟩ := gdM_parts hg hq ha ho hm ta tO tm
  have eq := ofVQ_v qs
  have ea := ofVR_v a
  have eo := ofVR_v o
  have em := ofVR_v m
  have pl : ∀ n : Nat, n ≤ 64 → pairB (n : Int) = true := fun n hn => by
    unfold pairB
    rw [decide_eq_true (by omega : (0 : Int) ≤ (n : Int)), decide_eq_true (by omega : (n : Int) ≤ 65535)]
    rfl
  have c1 := pl qs.length (by omega)
  have c2 := pl a.length (by omega)
  have c3 := pl o.length (by omega)
  have c4 := pl m.length (by omega)
  generalize hH : headM id fl qs.length a.length o.length m.length = H
  have hHl : H.length = 12 := by rw [← hH]; rfl
  have l1 := pq_loop id fl qs a o m p4 (by omega) qs 0 H rfl (by omega)
  have hql := encQs_len p4
  have hx : (H ++ encQs qs).length ≤ 30000 := by rw [List.length_append]; omega
  have l2 := pl_loop a o m p5 p6 p7 (by omega) (by omega) (by omega) (H ++ encQs qs) hx
  have hT : bytM id fl qs a o m = H ++ encQs qs ++ encRs a ++ encRs o ++ encRs m := by unfold bytM; rw [hH]
  have b0 : ([] : List UInt8).length ≤ 1000000 ∧ pairB id = true := ⟨by decide, p1⟩
  have b1 : (be2 id).length ≤ 1000000 ∧ pairB fl = true := ⟨by simp [be2_len], p2⟩
  have b2 : (be2 id ++ be2 fl).length ≤ 1000000 ∧ pairB (qs.length : Int) = true := ⟨by simp [be2_len], c1⟩
  have b3 : (be2 id ++ be2 fl ++ be2 (qs.length : Int)).length ≤ 1000000 ∧ pairB (a.length : Int) = true := ⟨by simp [be2_len], c2⟩
  have b4 : (be2 id ++ be2 fl ++ be2 (qs.length : Int) ++ be2 (a.length : Int)).length ≤ 1000000 ∧ pairB (o.length : Int) = true := ⟨by simp [be2_len], c3⟩
  have b5 : (be2 id ++ be2 fl ++ be2 (qs.length : Int) ++ be2 (a.length : Int) ++ be2 (o.length : Int)).length ≤ 1000000 ∧ pairB (m.length : Int) = true := ⟨by simp [be2_len], c4⟩
  have hH2 : be2 id ++ be2 fl ++ be2 (qs.length : Int) ++ be2 (a.length : Int) ++ be2 (o.length : Int) ++ be2 (m.length : Int) = H := hH
  cases hp : puts3 (H ++ encQs qs) a o m with
  | none =>
    rw [hp] at l2
    have := puts3_none hp
    rw [← hT] at this
    refine ⟨fun _ => ?_, fun h => by omega⟩
    refine (outXS_ok kPt_ok (ptm_ret id fl qs a o m (H ++ encQs qs) []) ?_).upTo (by decide)
    simp only [eq, ea, eo, em]
    rw [hH]
    rw [hH2]
    repeat' (first | exact allNil | refine allCons ?_ ?_ | (with_reducible refine allRp _ ?_ ?_))
    all_goals first | (with_reducible rfl) | exact True.intro | exact hq | exact ha | exact ho | exact hm | exact l1 | exact l2 | exact b0 | exact b1 | exact b2 | exact b3 | exact b4 | exact b5 | exact ⟨rfl, rfl⟩ | exact ⟨True.intro, True.intro⟩ | exact decide_eq_true (by omega) | exact decide_eq_false (by omega) | (rw [hg]; rfl) | exact rfl
  | some w =>
    rw [hp] at l2
    have hw := puts3_some hp
    rw [← hT] at hw
    refine ⟨fun h => ?_, fun h => ?_⟩
    · refine (outXS_ok kPt_ok (ptm_big id fl qs a o m (H ++ encQs qs) w) ?_).upTo (by decide)
      rw [← hw] at h
      simp only [eq, ea, eo, em]
      rw [hH]
      rw [hH2]
      repeat' (first | exact allNil | refine allCons ?_ ?_ | (with_reducible refine allRp _ ?_ ?_))
      all_goals first | (with_reducible rfl) | exact True.intro | exact hq | exact ha | exact ho | exact hm | exact l1 | exact l2 | exact b0 | exact b1 | exact b2 | exact b3 | exact b4 | exact b5 | exact ⟨rfl, rfl⟩ | exact ⟨True.intro, True.intro⟩ | exact decide_eq_true (by omega) | exact decide_eq_false (by omega) | (rw [hg]; rfl) | exact rfl
    · have hh := outXS_ok kPt_ok (ptm_ok id fl qs a o m (H ++ encQs qs) w) (by
        rw [← hw] at h
        simp only [eq, ea, eo, em]
        rw [hH]
        rw [hH2]
        repeat' (first | exact allNil | refine allCons ?_ ?_ | (with_reducible refine allRp _ ?_ ?_))
        all_goals first | (with_reducible rfl) | exact True.intro | exact hq | exact ha | exact ho | exact hm | exact l1 | exact l2 | exact b0 | exact b1 | exact b2 | exact b3 | exact b4 | exact b5 | exact ⟨rfl, rfl⟩ | exact ⟨True.intro, True.intro⟩ | exact decide_eq_true (by omega) | exact decide_eq_false (by omega) | (rw [hg]; rfl) | exact rfl)
      rw [← hw]
      exact hh.upTo (by decide)
end
end Go.Proofs.Ytmilcpejchjleaa
