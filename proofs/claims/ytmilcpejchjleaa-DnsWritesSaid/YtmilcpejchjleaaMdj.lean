/- Several texts in one: Dj0, DjRun, Dj, Dk. -/
import Derived.Test.YtmilcpejchjleaaMdi
import Derived.Test.YtmilcpejchjleaaBw
import Derived.Test.YtmilcpejchjleaaOp

/- Functions of messages, known by what they yield (law 21). -/
namespace Go.Proofs.Ytmilcpejchjleaa
open Go.RowKit
set_option linter.unusedVariables false

/-- a function of a message (and of nothing more) whose result leads to no objects -/
def kMsg (f : FuncId) (out : Int → Int → List DQ → List DR → List DR → List DR → AV × List Prop) : Inl := kPure f fun xs =>
  match xs with
  | [.agg [.val (.int .i64 id), .val (.int .i64 fl), q, a, o, m]] =>
    match WQ.ofS q, WR.ofS a, WR.ofS o, WR.ofS m with
    | some (qs, p1), some (as1, p2), some (os1, p3), some (ms1, p4) => some ((out id fl qs as1 os1 ms1).1, p1 :: p2 :: p3 :: p4 :: (out id fl qs as1 os1 ms1).2)
    | _, _, _, _ => none
  | _ => none
theorem kMsg_ok {P : Program} {f : FuncId} {out : Int → Int → List DQ → List DR → List DR → List DR → AV × List Prop} {n : Nat} (h : ∀ id fl qs a o m, (∀ p ∈ (out id fl qs a o m).2, p) → (∀ r : Nat → Nat, (out id fl qs a o m).1.ren r = (out id fl qs a o m).1) ∧ ACall P f [msgA id fl qs a o m] [] 0 (out id fl qs a o m).1 [] n) : InlOk P (kMsg f out) := kPure_ok fun xs v q hF hq L nx => by
  split at hF
  · rename_i id fl q' a' o' m'
    split at hF
    · rename_i qs p1 as1 p2 os1 p3 ms1 p4 h1 h2 h3 h4
      simp only [Option.some.injEq, Prod.mk.injEq] at hF
      obtain ⟨rfl, rfl⟩ := hF
      simp only [List.forall_mem_cons] at hq
      obtain ⟨q1, q2, q3, q4, q5⟩ := hq
      obtain ⟨hv, hc⟩ := h id fl qs as1 os1 ms1 q5
      have hc2 := hc.liftV (fun r => rfl) hv L nx
      exact hc2.argsL (.cons (RepLe.agg (.cons (sameA _) (.cons (sameA _) (.cons (WQ.ofS_rep h1 q1) (.cons (WR.ofS_rep h2 q2) (.cons (WR.ofS_rep h3 q3) (.cons (WR.ofS_rep h4 q4) .nil))))))) .nil)
    · cases hF
  · cases hF

def msgK (qs : List DQ) (a o m : List DR) : Prop := qK qs ∧ rK a ∧ rK o ∧ rK m ∧ ttlK a ∧ ttlK o ∧ ttlK m
def kGrM : Inl := kMsg 62 fun _ _ qs a o m => (.val (.bool (grN qs a o m)), [])
/-- what is written: 0 a mistake, 1 too long, 2 bytes -/
def putOut : Nat → Int → Int → List DQ → List DR → List DR → List DR → AV × List Prop
  | 0, id, fl, qs, a, o, m => (.tup [nilS, iI 1], [msgK qs a o m, gdM id fl qs a o m = false])
  | 1, id, fl, qs, a, o, m => (.tup [nilS, iI 2], [msgK qs a o m, gdM id fl qs a o m = true, 1472 < (bytM id fl qs a o m).length])
  | _, id, fl, qs, a, o, m => (.tup [.bytes (bytM id fl qs a o m), iI 0], [msgK qs a o m, gdM id fl qs a o m = true, (bytM id fl qs a o m).length ≤ 1472])
def kPutM (w : Nat) : Inl := kMsg 58 (putOut w)
def kPmM (w : Nat) : Inl := kMsg 63 (putOut w)

theorem kGrM_ok : InlOk Try.prog kGrM := kMsg_ok (n := 0) fun id fl qs a o m _ => ⟨fun _ => rfl, great_call id fl qs a o m⟩

theorem put_bytes {P : Program} {f : FuncId} {xs : List AV} {k n1 n2 : Nat} {bs : List UInt8} (h : ACall P f xs [] 0 (.tup [.sl k 0 bs.length none, iI 0]) [(k, puO bs)] n1) (hn : n1 ≤ n2) : ACall P f xs [] 0 (.tup [.bytes bs, iI 0]) [] n2 := by
  refine h.as (c := .tup [.c (.bytes bs), .c .keep]) (B := [k]) (obs := [0 + bs.length ≤ bs.length, (bs.drop 0).take bs.length = bs]) ?_ ?_ ?_ ?_ hn
  · simp [co2, coL, co1, co0, bytesOf, hp, puO, objApp, inB, idOf]
  · simp
  · intro id hid
    have e := List.mem_singleton.1 hid
    subst e
    exact ⟨puO bs, by simp [hp]⟩
  · intro id x hid
    cases hid

theorem kPutM_ok (w : Nat) : InlOk Try.prog (kPutM w) := kMsg_ok (n := 50) fun id fl qs a o m hp => by
  match w with
  | 0 =>
    simp only [putOut, List.forall_mem_cons, List.not_mem_nil, false_implies, implies_true, and_true] at hp
    obtain ⟨⟨k1, k2, k3, k4, k5, k6, k7⟩, hg⟩ := hp
    exact ⟨fun _ => rfl, put_bad_m id fl qs a o m k1 k2 k3 k4 hg⟩
  | 1 =>
    simp only [putOut, List.forall_mem_cons, List.not_mem_nil, false_implies, implies_true, and_true] at hp
    obtain ⟨⟨k1, k2, k3, k4, k5, k6, k7⟩, hg, hl⟩ := hp
    exact ⟨fun _ => rfl, (put_walk_m id fl qs a o m k1 k2 k3 k4 k5 k6 k7 hg).1 hl⟩
  | w + 2 =>
    simp only [putOut, List.forall_mem_cons, List.not_mem_nil, false_implies, implies_true, and_true] at hp
    obtain ⟨⟨k1, k2, k3, k4, k5, k6, k7⟩, hg, hl⟩ := hp
    exact ⟨fun _ => rfl, put_bytes ((put_walk_m id fl qs a o m k1 k2 k3 k4 k5 k6 k7 hg).2 hl) (Nat.le_refl _)⟩

theorem kPmM_ok (w : Nat) : InlOk Try.prog (kPmM w) := kMsg_ok (n := 300) fun id fl qs a o m hp => by
  match w with
  | 0 =>
    simp only [putOut, List.forall_mem_cons, List.not_mem_nil, false_implies, implies_true, and_true] at hp
    obtain ⟨⟨k1, k2, k3, k4, k5, k6, k7⟩, hg⟩ := hp
    exact ⟨fun _ => rfl, pm_bad_m id fl qs a o m k1 k2 k3 k4 hg⟩
  | 1 =>
    simp only [putOut, List.forall_mem_cons, List.not_mem_nil, false_implies, implies_true, and_true] at hp
    obtain ⟨⟨k1, k2, k3, k4, k5, k6, k7⟩, hg, hl⟩ := hp
    exact ⟨fun _ => rfl, (pm_walk_m id fl qs a o m k1 k2 k3 k4 k5 k6 k7 hg).1 hl⟩
  | w + 2 =>
    simp only [putOut, List.forall_mem_cons, List.not_mem_nil, false_implies, implies_true, and_true] at hp
    obtain ⟨⟨k1, k2, k3, k4, k5, k6, k7⟩, hg, hl⟩ := hp
    obtain ⟨k, N, h, _, _, hN⟩ := (pm_walk_m id fl qs a o m k1 k2 k3 k4 k5 k6 k7 hg).2 hl
    exact ⟨fun _ => rfl, put_bytes h hN⟩

/-- all that the laws of chapter 21 call -/
def kW21 (w : Nat) : Inl := orInl kN (orInl kGrM (orInl (kPutM w) (orInl (kPmM w) (orInl kQs (orInl kRs (orInl kCs kSmM))))))
theorem kW21_ok (w : Nat) : InlOk Try.prog (kW21 w) := orInl_ok kN_ok (orInl_ok kGrM_ok (orInl_ok (kPutM_ok w) (orInl_ok (kPmM_ok w) (orInl_ok kQs_ok (orInl_ok kRs_ok (orInl_ok kCs_ok kSmM_ok))))))
def kL0 : Inl := kW21 0
def kL1 : Inl := kW21 1
def kL2 : Inl := kW21 2
end Go.Proofs.Ytmilcpejchjleaa

/- DnsWrites, reckoned on each of its ways. -/
namespace Go.Proofs.Ytmilcpejchjleaa
open Go.RowKit

set_option maxRecDepth 100000 in
theorem dw_great (id : Int) (fl : Int) (qs : List DQ) (a : List DR) (o : List DR) (m : List DR) (code : Int) : outXS kL0 [(21, { br := [(12, true)] })] Try.prog 21 [AV.agg [AV.val (Value.int IntKind.i64 id), AV.val (Value.int IntKind.i64 fl), vQ qs, vR a, vR o, vR m], AV.val (Value.int IntKind.i64 code)] [] 0 [] [] = some (AV.val (Value.bool true), [], 7, ((vQ qs) = vQ (ofVQ (vQ qs))) ::
   ((vR a) = vR (ofVR (vR a))) ::
   ((vR o) = vR (ofVR (vR o))) ::
   ((vR m) = vR (ofVR (vR m))) ::
   (grN (ofVQ (vQ qs)) (ofVR (vR a)) (ofVR (vR o)) (ofVR (vR m)) = true) :: []) := by kernel_rfl

set_option maxRecDepth 100000 in
theorem dw_bad (id : Int) (fl : Int) (qs : List DQ) (a : List DR) (o : List DR) (m : List DR) (code : Int) : outXS kL0 [(21, { br := [(12, false)] })] Try.prog 21 [AV.agg [AV.val (Value.int IntKind.i64 id), AV.val (Value.int IntKind.i64 fl), vQ qs, vR a, vR o, vR m], AV.val (Value.int IntKind.i64 code)] [] 0 [] [] = some (AV.val (Value.bool true), [], 140, ((vQ qs) = vQ (ofVQ (vQ qs))) ::
   ((vR a) = vR (ofVR (vR a))) ::
   ((vR o) = vR (ofVR (vR o))) ::
   ((vR m) = vR (ofVR (vR m))) ::
   (grN (ofVQ (vQ qs)) (ofVR (vR a)) (ofVR (vR o)) (ofVR (vR m)) = false) ::
   ((vQ qs) = vQ (ofVQ (vQ qs))) ::
   ((vR a) = vR (ofVR (vR a))) ::
   ((vR o) = vR (ofVR (vR o))) ::
   ((vR m) = vR (ofVR (vR m))) ::
   (msgK (ofVQ (vQ qs)) (ofVR (vR a)) (ofVR (vR o)) (ofVR (vR m))) ::
   (gdM id fl (ofVQ (vQ qs)) (ofVR (vR a)) (ofVR (vR o)) (ofVR (vR m)) = false) ::
   ((vQ qs) = vQ (ofVQ (vQ qs))) ::
   (ls5 (ofVQ (vQ qs))) ::
   ((vR a) = vR (ofVR (vR a))) ::
   (ls5 (ofVR (vR a))) ::
   ((vR o) = vR (ofVR (vR o))) ::
   (ls5 (ofVR (vR o))) ::
   ((vR m) = vR (ofVR (vR m))) ::
   (ls5 (ofVR (vR m))) ::
   ((vQ (ofVQ (vQ qs))) = vQ (ofVQ (vQ (ofVQ (vQ qs))))) ::
   ((vR (ofVR (vR a))) = vR (ofVR (vR (ofVR (vR a))))) ::
   ((vR (ofVR (vR o))) = vR (ofVR (vR (ofVR (vR o))))) ::
   ((vR (ofVR (vR m))) = vR (ofVR (vR (ofVR (vR m))))) ::
   (msgK (ofVQ (vQ (ofVQ (vQ qs)))) (ofVR (vR (ofVR (vR a)))) (ofVR (vR (ofVR (vR o)))) (ofVR (vR (ofVR (vR m))))) ::
   (gdM id fl (ofVQ (vQ (ofVQ (vQ qs)))) (ofVR (vR (ofVR (vR a)))) (ofVR (vR (ofVR (vR o)))) (ofVR (vR (ofVR (vR m)))) = false) ::
   ((vQ qs) = vQ (ofVQ (vQ qs))) ::
   (qK (ofVQ (vQ qs))) ::
   ((vQ (ofVQ (vQ qs))) = vQ (ofVQ (vQ (ofVQ (vQ qs))))) ::
   (ls5 (ofVQ (vQ (ofVQ (vQ qs))))) ::
   (Value.slice none 0 0 = Value.slice none 0 0) ::
   (ls5 ([] : List DR)) ::
   (Value.slice none 0 0 = Value.slice none 0 0) ::
   (ls5 ([] : List DR)) ::
   (Value.slice none 0 0 = Value.slice none 0 0) ::
   (ls5 ([] : List DR)) ::
   ((vQ qs) = vQ (ofVQ (vQ qs))) ::
   (ls5 (ofVQ (vQ qs))) ::
   ((vR a) = vR (ofVR (vR a))) ::
   (ls5 (ofVR (vR a))) ::
   ((vR o) = vR (ofVR (vR o))) ::
   (ls5 (ofVR (vR o))) ::
   ((vR m) = vR (ofVR (vR m))) ::
   (ls5 (ofVR (vR m))) ::
   (id = id) ::
   (bits BinOp.or IntKind.i64 (bits BinOp.or IntKind.i64 (bits BinOp.or IntKind.i64 (32768 : Int) (bits BinOp.and IntKind.i64 fl (30976 : Int))) (128 : Int)) (bits BinOp.and IntKind.i64 code (15 : Int)) = bits BinOp.or IntKind.i64 (bits BinOp.or IntKind.i64 (bits BinOp.or IntKind.i64 (bits BinOp.or IntKind.i64 (32768 : Int) (bits BinOp.and IntKind.i64 fl (30720 : Int))) (bits BinOp.and IntKind.i64 fl (256 : Int))) (128 : Int)) (bits BinOp.and IntKind.i64 code (15 : Int))) ::
   ((vQ (ofVQ (vQ (ofVQ (vQ qs))))) = vQ (ofVQ (vQ (ofVQ (vQ (ofVQ (vQ qs))))))) :: rp 3 ((vR []) = vR []) ( ((vQ (ofVQ (vQ qs))) = vQ (ofVQ (vQ (ofVQ (vQ qs))))) :: rp 3 (Value.slice none 0 0 = Value.slice none 0 0) ( (ofVQ (vQ (ofVQ (vQ (ofVQ (vQ qs))))) = ofVQ (vQ (ofVQ (vQ qs)))) :: rp 3 (ofVR (vR []) = []) ( (qT (ofVQ (vQ (ofVQ (vQ (ofVQ (vQ qs))))))) :: rp 3 (rT (ofVR (vR []))) ( []))))) := by kernel_rfl

set_option maxRecDepth 100000 in
theorem dw_big (id : Int) (fl : Int) (qs : List DQ) (a : List DR) (o : List DR) (m : List DR) (code : Int) : outXS kL1 [(21, { br := [(12, false)] })] Try.prog 21 [AV.agg [AV.val (Value.int IntKind.i64 id), AV.val (Value.int IntKind.i64 fl), vQ qs, vR a, vR o, vR m], AV.val (Value.int IntKind.i64 code)] [] 0 [] [] = some (AV.val (Value.bool true), [], 140, ((vQ qs) = vQ (ofVQ (vQ qs))) ::
   ((vR a) = vR (ofVR (vR a))) ::
   ((vR o) = vR (ofVR (vR o))) ::
   ((vR m) = vR (ofVR (vR m))) ::
   (grN (ofVQ (vQ qs)) (ofVR (vR a)) (ofVR (vR o)) (ofVR (vR m)) = false) ::
   ((vQ qs) = vQ (ofVQ (vQ qs))) ::
   ((vR a) = vR (ofVR (vR a))) ::
   ((vR o) = vR (ofVR (vR o))) ::
   ((vR m) = vR (ofVR (vR m))) ::
   (msgK (ofVQ (vQ qs)) (ofVR (vR a)) (ofVR (vR o)) (ofVR (vR m))) ::
   (gdM id fl (ofVQ (vQ qs)) (ofVR (vR a)) (ofVR (vR o)) (ofVR (vR m)) = true) ::
   (1472 < List.length (bytM id fl (ofVQ (vQ qs)) (ofVR (vR a)) (ofVR (vR o)) (ofVR (vR m)))) ::
   ((vQ qs) = vQ (ofVQ (vQ qs))) ::
   (ls5 (ofVQ (vQ qs))) ::
   ((vR a) = vR (ofVR (vR a))) ::
   (ls5 (ofVR (vR a))) ::
   ((vR o) = vR (ofVR (vR o))) ::
   (ls5 (ofVR (vR o))) ::
   ((vR m) = vR (ofVR (vR m))) ::
   (ls5 (ofVR (vR m))) ::
   ((vQ (ofVQ (vQ qs))) = vQ (ofVQ (vQ (ofVQ (vQ qs))))) ::
   ((vR (ofVR (vR a))) = vR (ofVR (vR (ofVR (vR a))))) ::
   ((vR (ofVR (vR o))) = vR (ofVR (vR (ofVR (vR o))))) ::
   ((vR (ofVR (vR m))) = vR (ofVR (vR (ofVR (vR m))))) ::
   (msgK (ofVQ (vQ (ofVQ (vQ qs)))) (ofVR (vR (ofVR (vR a)))) (ofVR (vR (ofVR (vR o)))) (ofVR (vR (ofVR (vR m))))) ::
   (gdM id fl (ofVQ (vQ (ofVQ (vQ qs)))) (ofVR (vR (ofVR (vR a)))) (ofVR (vR (ofVR (vR o)))) (ofVR (vR (ofVR (vR m)))) = true) ::
   (1472 < List.length (bytM id fl (ofVQ (vQ (ofVQ (vQ qs)))) (ofVR (vR (ofVR (vR a)))) (ofVR (vR (ofVR (vR o)))) (ofVR (vR (ofVR (vR m)))))) ::
   ((vQ qs) = vQ (ofVQ (vQ qs))) ::
   (qK (ofVQ (vQ qs))) ::
   ((vQ (ofVQ (vQ qs))) = vQ (ofVQ (vQ (ofVQ (vQ qs))))) ::
   (ls5 (ofVQ (vQ (ofVQ (vQ qs))))) ::
   (Value.slice none 0 0 = Value.slice none 0 0) ::
   (ls5 ([] : List DR)) ::
   (Value.slice none 0 0 = Value.slice none 0 0) ::
   (ls5 ([] : List DR)) ::
   (Value.slice none 0 0 = Value.slice none 0 0) ::
   (ls5 ([] : List DR)) ::
   ((vQ qs) = vQ (ofVQ (vQ qs))) ::
   (ls5 (ofVQ (vQ qs))) ::
   ((vR a) = vR (ofVR (vR a))) ::
   (ls5 (ofVR (vR a))) ::
   ((vR o) = vR (ofVR (vR o))) ::
   (ls5 (ofVR (vR o))) ::
   ((vR m) = vR (ofVR (vR m))) ::
   (ls5 (ofVR (vR m))) ::
   (id = id) ::
   (bits BinOp.or IntKind.i64 (bits BinOp.or IntKind.i64 (bits BinOp.or IntKind.i64 (32768 : Int) (bits BinOp.and IntKind.i64 fl (30976 : Int))) (128 : Int)) (bits BinOp.and IntKind.i64 code (15 : Int)) = bits BinOp.or IntKind.i64 (bits BinOp.or IntKind.i64 (bits BinOp.or IntKind.i64 (bits BinOp.or IntKind.i64 (32768 : Int) (bits BinOp.and IntKind.i64 fl (30720 : Int))) (bits BinOp.and IntKind.i64 fl (256 : Int))) (128 : Int)) (bits BinOp.and IntKind.i64 code (15 : Int))) ::
   ((vQ (ofVQ (vQ (ofVQ (vQ qs))))) = vQ (ofVQ (vQ (ofVQ (vQ (ofVQ (vQ qs))))))) :: rp 3 ((vR []) = vR []) ( ((vQ (ofVQ (vQ qs))) = vQ (ofVQ (vQ (ofVQ (vQ qs))))) :: rp 3 (Value.slice none 0 0 = Value.slice none 0 0) ( (ofVQ (vQ (ofVQ (vQ (ofVQ (vQ qs))))) = ofVQ (vQ (ofVQ (vQ qs)))) :: rp 3 (ofVR (vR []) = []) ( (qT (ofVQ (vQ (ofVQ (vQ (ofVQ (vQ qs))))))) :: rp 3 (rT (ofVR (vR []))) ( []))))) := by kernel_rfl

set_option maxRecDepth 100000 in
theorem dw_ok (id : Int) (fl : Int) (qs : List DQ) (a : List DR) (o : List DR) (m : List DR) (code : Int) : outXS kL2 [(21, { op := [(7, 20, .br true)], gd := [(7, 11, true), (7, 12, true), (7, 13, true), (7, 14, true), (7, 15, true), (7, 16, true), (7, 17, true), (7, 18, true), (7, 19, true)], br := [(12, false)] })] Try.prog 21 [AV.agg [AV.val (Value.int IntKind.i64 id), AV.val (Value.int IntKind.i64 fl), vQ qs, vR a, vR o, vR m], AV.val (Value.int IntKind.i64 code)] [] 0 [] [] = some (AV.val (Value.bool true), [], 140, ((vQ qs) = vQ (ofVQ (vQ qs))) ::
   ((vR a) = vR (ofVR (vR a))) ::
   ((vR o) = vR (ofVR (vR o))) ::
   ((vR m) = vR (ofVR (vR m))) ::
   (grN (ofVQ (vQ qs)) (ofVR (vR a)) (ofVR (vR o)) (ofVR (vR m)) = false) ::
   ((vQ qs) = vQ (ofVQ (vQ qs))) ::
   ((vR a) = vR (ofVR (vR a))) ::
   ((vR o) = vR (ofVR (vR o))) ::
   ((vR m) = vR (ofVR (vR m))) ::
   (msgK (ofVQ (vQ qs)) (ofVR (vR a)) (ofVR (vR o)) (ofVR (vR m))) ::
   (gdM id fl (ofVQ (vQ qs)) (ofVR (vR a)) (ofVR (vR o)) (ofVR (vR m)) = true) ::
   (List.length (bytM id fl (ofVQ (vQ qs)) (ofVR (vR a)) (ofVR (vR o)) (ofVR (vR m))) ≤ 1472) ::
   ((vQ qs) = vQ (ofVQ (vQ qs))) ::
   (ls5 (ofVQ (vQ qs))) ::
   ((vR a) = vR (ofVR (vR a))) ::
   (ls5 (ofVR (vR a))) ::
   ((vR o) = vR (ofVR (vR o))) ::
   (ls5 (ofVR (vR o))) ::
   ((vR m) = vR (ofVR (vR m))) ::
   (ls5 (ofVR (vR m))) ::
   ((vQ (ofVQ (vQ qs))) = vQ (ofVQ (vQ (ofVQ (vQ qs))))) ::
   ((vR (ofVR (vR a))) = vR (ofVR (vR (ofVR (vR a))))) ::
   ((vR (ofVR (vR o))) = vR (ofVR (vR (ofVR (vR o))))) ::
   ((vR (ofVR (vR m))) = vR (ofVR (vR (ofVR (vR m))))) ::
   (msgK (ofVQ (vQ (ofVQ (vQ qs)))) (ofVR (vR (ofVR (vR a)))) (ofVR (vR (ofVR (vR o)))) (ofVR (vR (ofVR (vR m))))) ::
   (gdM id fl (ofVQ (vQ (ofVQ (vQ qs)))) (ofVR (vR (ofVR (vR a)))) (ofVR (vR (ofVR (vR o)))) (ofVR (vR (ofVR (vR m)))) = true) ::
   (List.length (bytM id fl (ofVQ (vQ (ofVQ (vQ qs)))) (ofVR (vR (ofVR (vR a)))) (ofVR (vR (ofVR (vR o)))) (ofVR (vR (ofVR (vR m))))) ≤ 1472) :: rp 3 ((ByteArray.toList { data := List.toArray (bytM id fl (ofVQ (vQ qs)) (ofVR (vR a)) (ofVR (vR o)) (ofVR (vR m))) } == ByteArray.toList { data := List.toArray (bytM id fl (ofVQ (vQ (ofVQ (vQ qs)))) (ofVR (vR (ofVR (vR a)))) (ofVR (vR (ofVR (vR o)))) (ofVR (vR (ofVR (vR m))))) }) = true) ( ((vQ qs) = vQ (ofVQ (vQ qs))) ::
   (qK (ofVQ (vQ qs))) ::
   ((ByteArray.toList { data := List.toArray (bytM id fl (ofVQ (vQ qs)) (ofVR (vR a)) (ofVR (vR o)) (ofVR (vR m))) } == ByteArray.toList { data := List.toArray (bytM id fl (ofVQ (vQ (ofVQ (vQ qs)))) (ofVR (vR (ofVR (vR a)))) (ofVR (vR (ofVR (vR o)))) (ofVR (vR (ofVR (vR m))))) }) = true) ::
   ((vQ (ofVQ (vQ qs))) = vQ (ofVQ (vQ (ofVQ (vQ qs))))) ::
   (ls5 (ofVQ (vQ (ofVQ (vQ qs))))) ::
   (Value.slice none 0 0 = Value.slice none 0 0) ::
   (ls5 ([] : List DR)) ::
   (Value.slice none 0 0 = Value.slice none 0 0) ::
   (ls5 ([] : List DR)) ::
   (Value.slice none 0 0 = Value.slice none 0 0) ::
   (ls5 ([] : List DR)) :: rp 2 ((ByteArray.toList { data := List.toArray (bytM id fl (ofVQ (vQ qs)) (ofVR (vR a)) (ofVR (vR o)) (ofVR (vR m))) } == ByteArray.toList { data := List.toArray (bytM id fl (ofVQ (vQ (ofVQ (vQ qs)))) (ofVR (vR (ofVR (vR a)))) (ofVR (vR (ofVR (vR o)))) (ofVR (vR (ofVR (vR m))))) }) = true) ( ((vQ qs) = vQ (ofVQ (vQ qs))) ::
   (ls5 (ofVQ (vQ qs))) ::
   ((vR a) = vR (ofVR (vR a))) ::
   (ls5 (ofVR (vR a))) ::
   ((vR o) = vR (ofVR (vR o))) ::
   (ls5 (ofVR (vR o))) ::
   ((vR m) = vR (ofVR (vR m))) ::
   (ls5 (ofVR (vR m))) :: rp 3 ((ByteArray.toList { data := List.toArray (bytM id fl (ofVQ (vQ qs)) (ofVR (vR a)) (ofVR (vR o)) (ofVR (vR m))) } == ByteArray.toList { data := List.toArray (bytM id fl (ofVQ (vQ (ofVQ (vQ qs)))) (ofVR (vR (ofVR (vR a)))) (ofVR (vR (ofVR (vR o)))) (ofVR (vR (ofVR (vR m))))) }) = true) ( (id = id) ::
   (bits BinOp.or IntKind.i64 (bits BinOp.or IntKind.i64 (bits BinOp.or IntKind.i64 (32768 : Int) (bits BinOp.and IntKind.i64 fl (30976 : Int))) (128 : Int)) (bits BinOp.and IntKind.i64 code (15 : Int)) = bits BinOp.or IntKind.i64 (bits BinOp.or IntKind.i64 (bits BinOp.or IntKind.i64 (bits BinOp.or IntKind.i64 (32768 : Int) (bits BinOp.and IntKind.i64 fl (30720 : Int))) (bits BinOp.and IntKind.i64 fl (256 : Int))) (128 : Int)) (bits BinOp.and IntKind.i64 code (15 : Int))) ::
   ((vQ (ofVQ (vQ (ofVQ (vQ qs))))) = vQ (ofVQ (vQ (ofVQ (vQ (ofVQ (vQ qs))))))) :: rp 3 ((vR []) = vR []) ( ((vQ (ofVQ (vQ qs))) = vQ (ofVQ (vQ (ofVQ (vQ qs))))) :: rp 3 (Value.slice none 0 0 = Value.slice none 0 0) ( (ofVQ (vQ (ofVQ (vQ (ofVQ (vQ qs))))) = ofVQ (vQ (ofVQ (vQ qs)))) :: rp 3 (ofVR (vR []) = []) ( (qT (ofVQ (vQ (ofVQ (vQ (ofVQ (vQ qs))))))) :: rp 3 (rT (ofVR (vR []))) ( ((ByteArray.toList { data := List.toArray (bytM id fl (ofVQ (vQ qs)) (ofVR (vR a)) (ofVR (vR o)) (ofVR (vR m))) } == ByteArray.toList { data := List.toArray (bytM id fl (ofVQ (vQ (ofVQ (vQ qs)))) (ofVR (vR (ofVR (vR a)))) (ofVR (vR (ofVR (vR o)))) (ofVR (vR (ofVR (vR m))))) }) = true) :: [])))))))) := by kernel_rfl
end Go.Proofs.Ytmilcpejchjleaa

/- DnsWrites: any message is bytes, or refused, as the document says; its refusal, too. -/
namespace Go.Proofs.Ytmilcpejchjleaa
open Go.RowKit
set_option linter.unusedSimpArgs false
set_option linter.unusedVariables false

theorem ofInt_wrap (v : BitVec 64) : BitVec.ofInt 64 (IntKind.wrap IntKind.i64 ((v.toNat : Nat) : Int)) = v := by
  apply BitVec.eq_of_toNat_eq
  have h := v.isLt
  rw [BitVec.toNat_ofInt]
  unfold IntKind.wrap
  simp [IntKind.bits, IntKind.signed]
  try (split <;> omega)
theorem flags_split (fl : Int) : bits BinOp.or IntKind.i64 32768 (bits BinOp.and IntKind.i64 fl 30976) = bits BinOp.or IntKind.i64 (bits BinOp.or IntKind.i64 32768 (bits BinOp.and IntKind.i64 fl 30720)) (bits BinOp.and IntKind.i64 fl 256) := by
  unfold bits
  simp only []
  show IntKind.wrap IntKind.i64 ((BitVec.ofInt 64 32768 ||| BitVec.ofInt 64 (IntKind.wrap IntKind.i64 ((BitVec.ofInt 64 fl &&& BitVec.ofInt 64 30976).toNat : Int))).toNat : Int) = IntKind.wrap IntKind.i64 ((BitVec.ofInt 64 (IntKind.wrap IntKind.i64 ((BitVec.ofInt 64 32768 ||| BitVec.ofInt 64 (IntKind.wrap IntKind.i64 ((BitVec.ofInt 64 fl &&& BitVec.ofInt 64 30720).toNat : Int))).toNat : Int)) ||| BitVec.ofInt 64 (IntKind.wrap IntKind.i64 ((BitVec.ofInt 64 fl &&& BitVec.ofInt 64 256).toNat : Int))).toNat : Int)
  simp only [ofInt_wrap]
  have e : BitVec.ofInt 64 30976 = BitVec.ofInt 64 30720 ||| BitVec.ofInt 64 256 := by decide
  rw [e, BitVec.or_assoc, ← BitVec.and_or_distrib_left]

theorem longN_ok {ls : List (List UInt8)} (h : longN ls = false) : lsK ls ∧ lsT ls := by
  unfold longN longR at h
  simp only [Bool.or_eq_false_iff, decide_eq_false_iff_not, List.any_eq_false, decide_eq_true_eq] at h
  obtain ⟨h1, h2⟩ := h
  have key : ∀ i, (ls.getD i []).length ≤ 300 := fun i => by
    by_cases hi : i < ls.length
    · rw [List.getD_eq_getElem?_getD, List.getElem?_eq_getElem hi]
      have := h2 _ (List.getElem_mem hi)
      simp only [Option.getD_some]
      omega
    · rw [List.getD_eq_getElem?_getD, List.getElem?_eq_none (by omega)]
      exact Nat.zero_le _
  exact ⟨⟨by omega, fun i => Nat.le_trans (key i) (by omega)⟩, ⟨by omega, fun i => Nat.le_trans (key i) (by omega)⟩⟩
theorem great_ok {qs : List DQ} {a o m : List DR} (hg : grN qs a o m = false) (ta : ttlK a) (tO : ttlK o) (tm : ttlK m) : msgK qs a o m ∧ qT qs ∧ rT a ∧ rT o ∧ rT m ∧ ls5 qs ∧ ls5 a ∧ ls5 o ∧ ls5 m := by
  unfold grN at hg
  simp only [Bool.or_eq_false_iff, decide_eq_false_iff_not] at hg
  obtain ⟨⟨⟨⟨h1, h2⟩, h3⟩, h4⟩, h5⟩ := hg
  have rr : ∀ rs : List DR, manN rs = false → rK rs ∧ rT rs ∧ rs.length ≤ 70 := fun rs h => by
    unfold manN manR at h
    simp only [Bool.or_eq_false_iff, decide_eq_false_iff_not, List.any_eq_false, Bool.not_eq_true] at h
    have key : ∀ i, lsK (rs.getD i dr0).name ∧ lsT (rs.getD i dr0).name ∧ (rs.getD i dr0).data.length ≤ 100000 := fun i => by
      by_cases hi : i < rs.length
      · rw [getR hi]
        have := h.2 _ (List.getElem_mem hi)
        obtain ⟨k1, k2⟩ := longN_ok this.1
        have h9 := this.2
        exact ⟨k1, k2, by omega⟩
      · rw [List.getD_eq_getElem?_getD, List.getElem?_eq_none (by omega)]
        exact ⟨⟨Nat.zero_le _, fun i => by simp [dr0]⟩, ⟨Nat.zero_le _, fun i => by simp [dr0]⟩, Nat.zero_le _⟩
    exact ⟨⟨by omega, fun i => ⟨(key i).1, (key i).2.2⟩⟩, ⟨by omega, fun i => (key i).2.1⟩, by omega⟩
  obtain ⟨a1, a2, a3⟩ := rr a h2
  obtain ⟨o1, o2, o3⟩ := rr o h3
  obtain ⟨m1, m2, m3⟩ := rr m h4
  have key : ∀ i, lsK (qs.getD i dq0).name ∧ lsT (qs.getD i dq0).name := fun i => by
    by_cases hi : i < qs.length
    · rw [getQ hi]
      unfold grR at h5
      simp only [List.any_eq_false, Bool.not_eq_true] at h5
      exact longN_ok (h5 _ (List.getElem_mem hi))
    · rw [List.getD_eq_getElem?_getD, List.getElem?_eq_none (by omega)]
      exact ⟨⟨Nat.zero_le _, fun i => by simp [dq0]⟩, ⟨Nat.zero_le _, fun i => by simp [dq0]⟩⟩
  exact ⟨⟨⟨by omega, fun i => (key i).1⟩, a1, o1, m1, ta, tO, tm⟩, ⟨by omega, fun i => (key i).2⟩, a2, o2, m2, by unfold ls5; omega, by unfold ls5; omega, by unfold ls5; omega, by unfold ls5; omega⟩

theorem dnsWrites_walk (id fl : Int) (qs : List DQ) (a o m : List DR) (code : Int) (ta : ttlK a) (tO : ttlK o) (tm : ttlK m) : ∃ L' n', ACall Try.prog 21 [msgA id fl qs a o m, iI code] [] 0 (.val (.bool true)) L' n' := by
  cases hg : grN qs a o m with
  | true =>
    refine ⟨_, _, outXS_ok (kW21_ok 0) (dw_great id fl qs a o m code) ?_⟩
    simp only [ofVQ_v, ofVR_v]
    repeat' (first | exact allNil | refine allCons ?_ ?_ | (with_reducible refine allRp _ ?_ ?_))
    all_goals first | (with_reducible rfl) | exact True.intro | exact hg
  | false =>
    obtain ⟨hK, q1, r1, r2, r3, l1, l2, l3, l4⟩ := great_ok hg ta tO tm
    have z5 : ls5 ([] : List DR) := Nat.zero_le _
    have zT : rT ([] : List DR) := ⟨Nat.zero_le _, fun i => ⟨Nat.zero_le _, fun j => by simp [dr0]⟩⟩
    have hqK := hK.1
    cases hd : gdM id fl qs a o m with
    | false =>
      refine ⟨_, _, outXS_ok (kW21_ok 0) (dw_bad id fl qs a o m code) ?_⟩
      simp only [ofVQ_v, ofVR_v, flags_split]
      repeat' (first | exact allNil | refine allCons ?_ ?_ | (with_reducible refine allRp _ ?_ ?_))
      all_goals first | (with_reducible rfl) | exact True.intro | exact hg | exact hK | exact hd | exact hqK | exact q1 | exact r1 | exact r2 | exact r3 | exact l1 | exact l2 | exact l3 | exact l4 | exact z5 | exact zT | exact rfl
    | true =>
      by_cases hl : 1472 < (bytM id fl qs a o m).length
      · refine ⟨_, _, outXS_ok (kW21_ok 1) (dw_big id fl qs a o m code) ?_⟩
        simp only [ofVQ_v, ofVR_v, flags_split]
        repeat' (first | exact allNil | refine allCons ?_ ?_ | (with_reducible refine allRp _ ?_ ?_))
        all_goals first | (with_reducible rfl) | exact True.intro | exact hg | exact hK | exact hd | exact hqK | exact hl | exact q1 | exact r1 | exact r2 | exact r3 | exact l1 | exact l2 | exact l3 | exact l4 | exact z5 | exact zT | exact rfl
      · have hl := Nat.le_of_not_lt hl
        refine ⟨_, _, outXS_ok (kW21_ok 2) (dw_ok id fl qs a o m code) ?_⟩
        simp only [ofVQ_v, ofVR_v, flags_split]
        repeat' (first | exact allNil | refine allCons ?_ ?_ | (with_reducible refine allRp _ ?_ ?_))
        all_goals first | (with_reducible rfl) | exact True.intro | exact hg | exact hK | exact hd | exact hqK | exact hl | exact q1 | exact r1 | exact r2 | exact r3 | exact l1 | exact l2 | exact l3 | exact l4 | exact z5 | exact zT | exact beq_self_eq_true _ | exact rfl
end Go.Proofs.Ytmilcpejchjleaa

/- Messages among a law's arguments; the law DnsWrites for each. -/
namespace Go.Proofs.Ytmilcpejchjleaa
open Go.RowKit

theorem Rep.view_le {E : Env} {w : World} {sz n : Nat} {g g' : Nat → List AV} {u : Value} (h : ∀ i, i < n → RepLe (g' i) (g i)) (r : Rep E w (.view sz n g) u) : Rep E w (.view sz n g') u := by
  cases r with
  | view cells hc hm hA hl hcell hr =>
    refine .view cells hc hm hA (fun i hi => (h i hi).len.trans (hl i hi)) hcell (fun i j a hi ha => ?_)
    have hj : j < (g i).length := by rw [← (h i hi).len]; exact (List.getElem?_eq_some_iff.1 ha).1
    exact (h i hi).get j a _ ha (List.getElem?_eq_getElem hj) _ _ _ (hr i j _ hi (List.getElem?_eq_getElem hj))

/-- rows of a kind, each of them less told, are a list of that kind -/
theorem RTyW.ofArg {α : Type} (R : RTyW α) (P : α → Prop) (h0 : P R.R.d) (n : Nat) (g : Nat → List AV) (h : ∀ i, i < n → ∃ a : α, P a ∧ RepLe (R.R.row a) (g i)) : ∃ l : List α, (∀ i, P (l.getD i R.R.d)) ∧ ∀ E w u, Rep E w (.view R.R.sz n g) u → Rep E w (R.vv l) u := by
  let f : Nat → α := fun i => if hi : i < n then Classical.choose (h i hi) else R.R.d
  have hf : ∀ i, i < n → P (f i) ∧ RepLe (R.R.row (f i)) (g i) := fun i hi => by
    show P (if hi : i < n then Classical.choose (h i hi) else R.R.d) ∧ RepLe (R.R.row (if hi : i < n then Classical.choose (h i hi) else R.R.d)) (g i)
    rw [dif_pos hi]
    exact Classical.choose_spec (h i hi)
  have hg : ∀ i, i < n → ((List.range n).map f).getD i R.R.d = f i := fun i hi => by simp [List.getD_eq_getElem?_getD, hi]
  refine ⟨(List.range n).map f, fun i => ?_, fun E w u r => ?_⟩
  · by_cases hi : i < n
    · rw [hg i hi]; exact (hf i hi).1
    · rw [List.getD_eq_getElem?_getD, List.getElem?_eq_none (by simp; omega)]; exact h0
  · rw [R.hv]
    unfold RTy.v
    have hn : ((List.range n).map f).length = n := by simp
    rw [hn]
    exact Rep.view_le (fun i hi => by rw [hg i hi]; exact (hf i hi).2) r

def lfQ : List Leaf := [.sl [.str], .int .i64, .int .i64]
def lfR : List Leaf := [.sl [.str], .int .i64, .int .i64, .int .u32, .bytes]
def LfRow (l : List Leaf) (r : List AV) : Prop := r.length = l.length ∧ ∀ (k : Nat) lf a, l[k]? = some lf → r[k]? = some a → LeafOk lf a
theorem leaf_names {a : AV} (h : LeafOk (.sl [.str]) a) : ∃ ls : List (List UInt8), ∀ E w u, Rep E w a u → Rep E w (vS ls) u := by
  cases h with
  | sl h1 h2 =>
    exact toVS _ _ fun i hi => by
      obtain ⟨s, _, hs⟩ := leaf_str (h1 i hi) (fun j lf a hj ha => h2 i j lf a hi hj ha)
      exact ⟨s, hs⟩
theorem leaf_q {r : List AV} (h : LfRow lfQ r) : ∃ q : DQ, True ∧ RepLe (WQ.R.row q) r := by
  obtain ⟨hn, hl⟩ := h
  match r, hn with
  | [x, y, z], _ =>
    obtain ⟨ls, h0⟩ := leaf_names (hl 0 _ x rfl rfl)
    have h1 := hl 1 _ y rfl rfl
    have h2 := hl 2 _ z rfl rfl
    cases h1 with
    | int w1 =>
      cases h2 with
      | int w2 => exact ⟨⟨ls, _, _⟩, True.intro, .cons h0 (.cons (sameA _) (.cons (sameA _) .nil))⟩
theorem leaf_r {r : List AV} (h : LfRow lfR r) : ∃ q : DR, (0 ≤ q.ttl ∧ q.ttl ≤ 4294967295) ∧ RepLe (WR.R.row q) r := by
  obtain ⟨hn, hl⟩ := h
  match r, hn with
  | [x, y, z, t, d], _ =>
    obtain ⟨ls, h0⟩ := leaf_names (hl 0 _ x rfl rfl)
    have h1 := hl 1 _ y rfl rfl
    have h2 := hl 2 _ z rfl rfl
    have h3 := hl 3 _ t rfl rfl
    have h4 := hl 4 _ d rfl rfl
    cases h1 with
    | int w1 =>
      cases h2 with
      | int w2 =>
        cases h3 with
        | int w3 =>
          cases h4 with
          | bytes xs =>
            have hz : ∀ z : Int, (Lit.int .u32 z).wf = true → 0 ≤ z ∧ z ≤ 4294967295 := fun z h => by
              have := wf_u32 h
              omega
            exact ⟨⟨ls, _, _, _, xs⟩, hz _ w3, .cons h0 (.cons (sameA _) (.cons (sameA _) (.cons (sameA _) (.cons (sameA _) .nil))))⟩

theorem toVQ (n : Nat) (g : Nat → List AV) (h : ∀ i, i < n → LfRow lfQ (g i)) : ∃ l : List DQ, ∀ E w u, Rep E w (.view 3 n g) u → Rep E w (vQ l) u := by
  obtain ⟨l, _, hl⟩ := WQ.ofArg (fun _ => True) True.intro n g fun i hi => leaf_q (h i hi)
  exact ⟨l, hl⟩
theorem toVR (n : Nat) (g : Nat → List AV) (h : ∀ i, i < n → LfRow lfR (g i)) : ∃ l : List DR, ttlK l ∧ ∀ E w u, Rep E w (.view 5 n g) u → Rep E w (vR l) u := by
  obtain ⟨l, h1, hl⟩ := WR.ofArg (fun q => 0 ≤ q.ttl ∧ q.ttl ≤ 4294967295) (by decide) n g fun i hi => leaf_r (h i hi)
  exact ⟨l, h1, hl⟩

theorem dnsWrites_arg (id fl : Int) (qn : Nat) (qg : Nat → List AV) (hq : ∀ i, i < qn → LfRow lfQ (qg i)) (an : Nat) (ag : Nat → List AV) (ha : ∀ i, i < an → LfRow lfR (ag i)) (on : Nat) (og : Nat → List AV) (ho : ∀ i, i < on → LfRow lfR (og i)) (mn : Nat) (mg : Nat → List AV) (hm : ∀ i, i < mn → LfRow lfR (mg i)) (code : Int) :
    ∃ L' n', ACall Try.prog 21 [.agg [iI id, iI fl, .view 3 qn qg, .view 5 an ag, .view 5 on og, .view 5 mn mg], iI code] [] 0 (.val (.bool true)) L' n' := by
  obtain ⟨qs, h1⟩ := toVQ qn qg hq
  obtain ⟨a, ta, h2⟩ := toVR an ag ha
  obtain ⟨o, tO, h3⟩ := toVR on og ho
  obtain ⟨m, tm, h4⟩ := toVR mn mg hm
  obtain ⟨L', n', hc⟩ := dnsWrites_walk id fl qs a o m code ta tO tm
  exact ⟨L', n', hc.argsL (.cons (RepLe.agg (.cons (sameA _) (.cons (sameA _) (.cons h1 (.cons h2 (.cons h3 (.cons h4 .nil))))))) (.cons (sameA _) .nil))⟩
end Go.Proofs.Ytmilcpejchjleaa
