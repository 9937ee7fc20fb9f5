/- Functions of messages, known by what they yield (law 21). -/
import Derived.Test.YtmilcpejchjleaaMdi
namespace Go.Proofs.Ytmilcpejchjleaa
open Go.RowKit
set_option linter.unusedVariables false

/-- a function of a message (and of nothing more) whose result leads to no objects -/
def kMsg (f : FuncId) (out : Int → Int → List DQ → List DR → List DR → List DR → AV × List Prop) : Inl := kPure f fun xs =>
  match xs with
  | [.agg [.val (.int .i64 id), .val (.int .i64 fl), q, a, o, m]] =>
    match WQ.ofS q, WR.ofS a, WR.ofS o, WR.ofS m with
    | some (qs, p1), some (as1, p2), some (os1, p3), some (ms1, p4) => some ((out id fl qs as1 os1 ms1).1, p1 :: p2 :: p3 :: p4 :: (out id fl qs as1 os1 ms1).2)
    | _, _, _, _ => none
  | _ => none
theorem kMsg_ok {P : Program} {f : FuncId} {out : Int → Int → List DQ → List DR → List DR → List DR → AV × List Prop} {n : Nat} (h : ∀ id fl qs a o m, (∀ p ∈ (out id fl qs a o m).2, p) → (∀ r : Nat → Nat, (out id fl qs a o m).1.ren r = (out id fl qs a o m).1) ∧ ACall P f [msgA id fl qs a o m] [] 0 (out id fl qs a o m).1 [] n) : InlOk P (kMsg f out) := kPure_ok fun xs v q hF hq L nx => by
  split at hF
  · rename_i id fl q' a' o' m'
    split at hF
    · rename_i qs p1 as1 p2 os1 p3 ms1 p4 h1 h2 h3 h4
      simp only [Option.some.injEq, Prod.mk.injEq] at hF
      obtain ⟨rfl, rfl⟩ := hF
      simp only [List.forall_mem_cons] at hq
      obtain ⟨q1, q2, q3, q4, q5⟩ := hq
      obtain ⟨hv, hc⟩ := h id fl qs as1 os1 ms1 q5
      have hc2 := hc.liftV (fun r => rfl) hv L nx
      exact hc2.argsL (.cons (RepLe.agg (.cons (sameA _) (.cons (sameA _) (.cons (WQ.ofS_rep h1 q1) (.cons (WR.ofS_rep h2 q2) (.cons (WR.ofS_rep h3 q3) (.cons (WR.ofS_rep h4 q4) .nil))))))) .nil)
    · cases hF
  · cases hF

def msgK (qs : List DQ) (a o m : List DR) : Prop := qK qs ∧ rK a ∧ rK o ∧ rK m ∧ ttlK a ∧ ttlK o ∧ ttlK m
def kGrM : Inl := kMsg 62 fun _ _ qs a o m => (.val (.bool (grN qs a o m)), [])
/-- what is written: 0 a mistake, 1 too long, 2 bytes -/
def putOut : Nat → Int → Int → List DQ → List DR → List DR → List DR → AV × List Prop
  | 0, id, fl, qs, a, o, m => (.tup [nilS, iI 1], [msgK qs a o m, gdM id fl qs a o m = false])
  | 1, id, fl, qs, a, o, m => (.tup [nilS, iI 2], [msgK qs a o m, gdM id fl qs a o m = true, 1472 < (bytM id fl qs a o m).length])
  | _, id, fl, qs, a, o, m => (.tup [.bytes (bytM id fl qs a o m), iI 0], [msgK qs a o m, gdM id fl qs a o m = true, (bytM id fl qs a o m).length ≤ 1472])
def kPutM (w : Nat) : Inl := kMsg 58 (putOut w)
theorem kGrM_ok : InlOk Try.prog kGrM := kMsg_ok (n := 0) fun id fl qs a o m _ => ⟨fun _ => rfl, great_call id fl qs a o m⟩

theorem put_bytes {P : Program} {f : FuncId} {xs : List AV} {k n1 n2 : Nat} {bs : List UInt8} (h : ACall P f xs [] 0 (.tup [.sl k 0 bs.length none, iI 0]) [(k, puO bs)] n1) (hn : n1 ≤ n2) : ACall P f xs [] 0 (.tup [.bytes bs, iI 0]) [] n2 := by
  refine h.as (c := .tup [.c (.bytes bs), .c .keep]) (B := [k]) (obs := [0 + bs.length ≤ bs.length, (bs.drop 0).take bs.length = bs]) ?_ ?_ ?_ ?_ hn
  · simp [co2, coL, co1, co0, bytesOf, hp, puO, objApp, inB, idOf]
  · simp
  · intro id hid
    have e := List.mem_singleton.1 hid
    subst e
    exact ⟨puO bs, by simp [hp]⟩
  · intro id x hid
    cases hid

theorem kPutM_ok (w : Nat) : InlOk Try.prog (kPutM w) := kMsg_ok (n := 50) fun id fl qs a o m hp => by
  match w with
  | 0 =>
    simp only [putOut, List.forall_mem_cons, List.not_mem_nil, false_implies, implies_true, and_true] at hp
    obtain ⟨⟨k1, k2, k3, k4, k5, k6, k7⟩, hg⟩ := hp
    exact ⟨fun _ => rfl, put_bad_m id fl qs a o m k1 k2 k3 k4 hg⟩
  | 1 =>
    simp only [putOut, List.forall_mem_cons, List.not_mem_nil, false_implies, implies_true, and_true] at hp
    obtain ⟨⟨k1, k2, k3, k4, k5, k6, k7⟩, hg, hl⟩ := hp
    exact ⟨fun _ => rfl, (put_walk_m id fl qs a o m k1 k2 k3 k4 k5 k6 k7 hg).1 hl⟩
  | w + 2 =>
    simp only [putOut, List.forall_mem_cons, List.not_mem_nil, false_implies, implies_true, and_true] at hp
    obtain ⟨⟨k1, k2, k3, k4, k5, k6, k7⟩, hg, hl⟩ := hp
    exact ⟨fun _ => rfl, put_bytes ((put_walk_m id fl qs a o m k1 k2 k3 k4 k5 k6 k7 hg).2 hl) (Nat.le_refl _)⟩

/-- what the laws call that do not ask how the document writes -/
def kV21 (w : Nat) : Inl := orInl kN (orInl kGrM (orInl (kPutM w) (orInl kQs (orInl kRs (orInl kCs kSmM)))))
theorem kV21_ok (w : Nat) : InlOk Try.prog (kV21 w) := orInl_ok kN_ok (orInl_ok kGrM_ok (orInl_ok (kPutM_ok w) (orInl_ok kQs_ok (orInl_ok kRs_ok (orInl_ok kCs_ok kSmM_ok)))))
def kV0 : Inl := kV21 0
def kV1 : Inl := kV21 1
def kV2 : Inl := kV21 2

theorem ofInt_wrap (v : BitVec 64) : BitVec.ofInt 64 (IntKind.wrap IntKind.i64 ((v.toNat : Nat) : Int)) = v := by
  apply BitVec.eq_of_toNat_eq
  have h := v.isLt
  rw [BitVec.toNat_ofInt]
  unfold IntKind.wrap
  simp [IntKind.bits, IntKind.signed]
  try (split <;> omega)
theorem longN_ok {ls : List (List UInt8)} (h : longN ls = false) : lsK ls ∧ lsT ls := by
  unfold longN longR at h
  simp only [Bool.or_eq_false_iff, decide_eq_false_iff_not, List.any_eq_false, decide_eq_true_eq] at h
  obtain ⟨h1, h2⟩ := h
  have key : ∀ i, (ls.getD i []).length ≤ 300 := fun i => by
    by_cases hi : i < ls.length
    · rw [List.getD_eq_getElem?_getD, List.getElem?_eq_getElem hi]
      have := h2 _ (List.getElem_mem hi)
      simp only [Option.getD_some]
      omega
    · rw [List.getD_eq_getElem?_getD, List.getElem?_eq_none (by omega)]
      exact Nat.zero_le _
  exact ⟨⟨by omega, fun i => Nat.le_trans (key i) (by omega)⟩, ⟨by omega, fun i => Nat.le_trans (key i) (by omega)⟩⟩
theorem great_ok {qs : List DQ} {a o m : List DR} (hg : grN qs a o m = false) (ta : ttlK a) (tO : ttlK o) (tm : ttlK m) : msgK qs a o m ∧ qT qs ∧ rT a ∧ rT o ∧ rT m ∧ ls5 qs ∧ ls5 a ∧ ls5 o ∧ ls5 m := by
  unfold grN at hg
  simp only [Bool.or_eq_false_iff, decide_eq_false_iff_not] at hg
  obtain ⟨⟨⟨⟨h1, h2⟩, h3⟩, h4⟩, h5⟩ := hg
  have rr : ∀ rs : List DR, manN rs = false → rK rs ∧ rT rs ∧ rs.length ≤ 70 := fun rs h => by
    unfold manN manR at h
    simp only [Bool.or_eq_false_iff, decide_eq_false_iff_not, List.any_eq_false, Bool.not_eq_true] at h
    have key : ∀ i, lsK (rs.getD i dr0).name ∧ lsT (rs.getD i dr0).name ∧ (rs.getD i dr0).data.length ≤ 100000 := fun i => by
      by_cases hi : i < rs.length
      · rw [getR hi]
        have := h.2 _ (List.getElem_mem hi)
        obtain ⟨k1, k2⟩ := longN_ok this.1
        have h9 := this.2
        exact ⟨k1, k2, by omega⟩
      · rw [List.getD_eq_getElem?_getD, List.getElem?_eq_none (by omega)]
        exact ⟨⟨Nat.zero_le _, fun i => by simp [dr0]⟩, ⟨Nat.zero_le _, fun i => by simp [dr0]⟩, Nat.zero_le _⟩
    exact ⟨⟨by omega, fun i => ⟨(key i).1, (key i).2.2⟩⟩, ⟨by omega, fun i => (key i).2.1⟩, by omega⟩
  obtain ⟨a1, a2, a3⟩ := rr a h2
  obtain ⟨o1, o2, o3⟩ := rr o h3
  obtain ⟨m1, m2, m3⟩ := rr m h4
  have key : ∀ i, lsK (qs.getD i dq0).name ∧ lsT (qs.getD i dq0).name := fun i => by
    by_cases hi : i < qs.length
    · rw [getQ hi]
      unfold grR at h5
      simp only [List.any_eq_false, Bool.not_eq_true] at h5
      exact longN_ok (h5 _ (List.getElem_mem hi))
    · rw [List.getD_eq_getElem?_getD, List.getElem?_eq_none (by omega)]
      exact ⟨⟨Nat.zero_le _, fun i => by simp [dq0]⟩, ⟨Nat.zero_le _, fun i => by simp [dq0]⟩⟩
  exact ⟨⟨⟨by omega, fun i => (key i).1⟩, a1, o1, m1, ta, tO, tm⟩, ⟨by omega, fun i => (key i).2⟩, a2, o2, m2, by unfold ls5; omega, by unfold ls5; omega, by unfold ls5; omega, by unfold ls5; omega⟩

end Go.Proofs.Ytmilcpejchjleaa
