/- Several texts in one: Do0, DoRun, Do, DpRun, Dp. -/
import Derived.Test.YtmilcpejchjleaaMdn
import Derived.Test.YtmilcpejchjleaaRp
import Derived.Test.YtmilcpejchjleaaMez
import Derived.Test.YtmilcpejchjleaaFx
import Derived.Test.YtmilcpejchjleaaMdz

/- A record's data that is read: words. -/
namespace Go.Proofs.Ytmilcpejchjleaa
open Go.RowKit
def dtO (b : List UInt8) (a : Nat) (e t : Int) (n : Nat) : Bool := shO t && decide (rdE b a e n = 0)
def dtB (b : List UInt8) (a : Nat) (e t : Int) (n : Nat) : List UInt8 := if dtO b a e t n = true then wrB b a (shH t) (shN t) (shT t) (rdA b a e n) else rdB b a e n
def dtE (b : List UInt8) (a : Nat) (e t : Int) (n : Nat) : Int := if dtO b a e t n = true then wrEr b a (shH t) (shN t) (shT t) (rdA b a e n) else rdE b a e n
end Go.Proofs.Ytmilcpejchjleaa

/- A record's data that is read (runs). No condition. -/
namespace Go.Proofs.Ytmilcpejchjleaa
open Go.RowKit

set_option maxRecDepth 100000 in
theorem dt_plain (b : List UInt8) (a : Nat) (e : Int) (t : Int) (n : Nat) : outXS kRd4 [(128, { op := [(4, 8, .br true)], gd := [(4, 3, true), (4, 4, true), (4, 5, true), (4, 6, true), (4, 7, true)], ob := [(2, 2)] })] Try.prog 128 [AV.ptr 0 0 0, AV.val (Value.int IntKind.i64 t), AV.val (Value.int IntKind.i64 (↑n : Int))] [(0, { t := 146, sz := 3, exact := true, fz := false, body := Body.rows [[AV.bytes b, AV.val (Value.int IntKind.i64 (↑a : Int)), AV.val (Value.int IntKind.i64 e)]] })] 1 [0] [] =
   some (AV.bytes (rdB b a e n), [(0, { t := 146, sz := 3, exact := true, fz := false, body := Body.rows [[AV.bytes b, AV.val (Value.int IntKind.i64 (↑(rdA b a e n) : Int)), AV.val (Value.int IntKind.i64 (rdE b a e n))]] })], 34,
   ((0 : Int) ≤ (↑a : Int)) ::
   (List.length b ≤ 1000000) ::
   (a ≤ List.length b) ::
   ((0 : Int) ≤ (↑n : Int)) ::
   ((↑n : Int) ≤ (1000000 : Int)) ::
   rp 6 ((!shO t) = true) ( [])) := by kernel_rfl

set_option maxRecDepth 100000 in
theorem dt_e (b : List UInt8) (a : Nat) (e : Int) (t : Int) (n : Nat) : outXS kRd4 [(128, { op := [(4, 8, .br false)], gd := [(4, 3, false), (4, 4, false), (4, 5, false), (4, 6, false), (4, 7, false)], br := [(36, true)], ob := [(2, 2)] })] Try.prog 128 [AV.ptr 0 0 0, AV.val (Value.int IntKind.i64 t), AV.val (Value.int IntKind.i64 (↑n : Int))] [(0, { t := 146, sz := 3, exact := true, fz := false, body := Body.rows [[AV.bytes b, AV.val (Value.int IntKind.i64 (↑a : Int)), AV.val (Value.int IntKind.i64 e)]] })] 1 [0] [] =
   some (AV.bytes (rdB b a e n), [(0, { t := 146, sz := 3, exact := true, fz := false, body := Body.rows [[AV.bytes b, AV.val (Value.int IntKind.i64 (↑(rdA b a e n) : Int)), AV.val (Value.int IntKind.i64 (rdE b a e n))]] })], 34,
   ((0 : Int) ≤ (↑a : Int)) ::
   (List.length b ≤ 1000000) ::
   (a ≤ List.length b) ::
   ((0 : Int) ≤ (↑n : Int)) ::
   ((↑n : Int) ≤ (1000000 : Int)) ::
   rp 6 ((!shO t) = false) (
   ((rdE b a e n != (0 : Int)) = true) :: [])) := by kernel_rfl

set_option maxRecDepth 100000 in
theorem dt_w (b : List UInt8) (a : Nat) (e : Int) (t : Int) (n : Nat) : outXS kRd4 [(128, { op := [(4, 8, .br false)], gd := [(4, 3, false), (4, 4, false), (4, 5, false), (4, 6, false), (4, 7, false)], br := [(36, false)], ob := [(2, 2), (8, 5)] })] Try.prog 128 [AV.ptr 0 0 0, AV.val (Value.int IntKind.i64 t), AV.val (Value.int IntKind.i64 (↑n : Int))] [(0, { t := 146, sz := 3, exact := true, fz := false, body := Body.rows [[AV.bytes b, AV.val (Value.int IntKind.i64 (↑a : Int)), AV.val (Value.int IntKind.i64 e)]] })] 1 [0] [] =
   some (AV.bytes (wrB b a (shH t) (shN t) (shT t) (rdA b a e n)), [(0, { t := 146, sz := 3, exact := true, fz := false, body := Body.rows [[AV.bytes b, AV.val (Value.int IntKind.i64 (↑(rdA b a e n) : Int)), AV.val (Value.int IntKind.i64 (wrEr b a (shH t) (shN t) (shT t) (rdA b a e n)))]] })], 255,
   ((0 : Int) ≤ (↑a : Int)) ::
   (List.length b ≤ 1000000) ::
   (a ≤ List.length b) ::
   ((0 : Int) ≤ (↑n : Int)) ::
   ((↑n : Int) ≤ (1000000 : Int)) ::
   rp 6 ((!shO t) = false) (
   ((rdE b a e n != (0 : Int)) = false) ::
   ((0 : Int) ≤ (↑a : Int)) ::
   (List.length b ≤ 1000000) ::
   (a ≤ List.length b) ::
   ((0 : Int) ≤ (↑(shH t) : Int) ∧ (↑(shH t) : Int) ≤ (1000 : Int)) ::
   ((0 : Int) ≤ (↑(shN t) : Int) ∧ (↑(shN t) : Int) ≤ (1000 : Int)) ::
   ((0 : Int) ≤ (↑(shT t) : Int) ∧ (↑(shT t) : Int) ≤ (1000 : Int)) ::
   ((0 : Int) ≤ (↑(rdA b a e n) : Int) ∧ (↑(rdA b a e n) : Int) ≤ (1000000 : Int)) ::
   (rdE b a e n = (0 : Int)) :: [])) := by kernel_rfl
end Go.Proofs.Ytmilcpejchjleaa

/- A record's data that is read: what is yielded; known. What the heads of the loops over records say. -/
namespace Go.Proofs.Ytmilcpejchjleaa
open Go.RowKit
set_option linter.unusedSimpArgs false
set_option linter.unusedVariables false

theorem sh_bds (t : Int) : shH t ≤ 1000 ∧ shN t ≤ 1000 ∧ shT t ≤ 1000 := by
  unfold shH shN shT
  refine ⟨?_, ?_, ?_⟩ <;> repeat' split
  all_goals omega
theorem rdE_zero {b : List UInt8} {a : Nat} {e : Int} {n : Nat} (h : rdE b a e n = 0) : e = 0 ∧ a + n ≤ b.length := by
  unfold rdE at h
  split at h
  · rename_i c
    split at h
    · exact ⟨c, by assumption⟩
    · exact absurd h (by decide)
  · rename_i c; exact absurd h c

theorem dt_call (b : List UInt8) (a : Nat) (e t : Int) (n : Nat) (hb : b.length ≤ 1000000) (ha : a ≤ b.length) (hn : n ≤ 1000000) :
    ACall Try.prog 128 [.ptr 0 0 0, .val (.int .i64 t), sI n] [(0, rdr b a e)] 1 (.bytes (dtB b a e t n)) [(0, rdr b (rdA b a e n) (dtE b a e t n))] 600 := by
  unfold dtB dtE dtO
  have hA := rdA_le (n := n) (e := e) ha
  obtain ⟨s1, s2, s3⟩ := sh_bds t
  cases ht : shO t with
  | false =>
    rw [if_neg (by simp), if_neg (by simp)]
    exact (outXS_ok kRd4_ok (dt_plain b a e t n) (by
      repeat' (first | exact allNil | refine allCons ?_ ?_ | (with_reducible refine allRp _ ?_ ?_))
      all_goals first | (with_reducible rfl) | exact True.intro | omega | (rw [ht]; rfl) | exact rfl)).upTo (by decide)
  | true =>
    by_cases he : rdE b a e n = 0
    · rw [if_pos (by simp [he]), if_pos (by simp [he])]
      exact (outXS_ok kRd4_ok (dt_w b a e t n) (by
        repeat' (first | exact allNil | refine allCons ?_ ?_ | (with_reducible refine allRp _ ?_ ?_))
        all_goals first | (with_reducible rfl) | exact True.intro | exact he | omega | (rw [ht]; rfl) | exact bne_eq_false_iff_eq.2 he | exact rfl)).upTo (by decide)
    · rw [if_neg (by simp [he]), if_neg (by simp [he])]
      exact (outXS_ok kRd4_ok (dt_e b a e t n) (by
        repeat' (first | exact allNil | refine allCons ?_ ?_ | (with_reducible refine allRp _ ?_ ?_))
        all_goals first | (with_reducible rfl) | exact True.intro | omega | (rw [ht]; rfl) | exact bne_iff_ne.2 he | exact rfl)).upTo (by decide)
def kDt : Inl := kMeth 128 599 fun b a e ys =>
  match ys with
  | [.val (.int .i64 t), .val (.int .i64 n)] => some (.bytes (dtB b a e t n.toNat), rdA b a e n.toNat, dtE b a e t n.toNat, [b.length ≤ 1000000, a ≤ b.length, 0 ≤ n ∧ n ≤ 1000000])
  | _ => none
theorem kDt_ok : InlOk Try.prog kDt := kMeth_ok fun b a e ys v a' e' q hF hq => by
  split at hF
  · rename_i t n
    simp only [Option.some.injEq, Prod.mk.injEq] at hF
    obtain ⟨rfl, rfl, rfl, rfl⟩ := hF
    simp only [List.forall_mem_cons, List.not_mem_nil, false_implies, implies_true, and_true] at hq
    obtain ⟨q1, q2, q3⟩ := hq
    refine ⟨fun r => rfl, fun r => rfl, 600, by decide, ?_⟩
    have := dt_call b a e t n.toNat q1 q2 (by omega)
    have e1 : ((n.toNat : Nat) : Int) = n := by omega
    unfold sI at this
    rwa [e1] at this
  · cases hF
def kRd5 : Inl := orInl kDt kRd3
theorem kRd5_ok : InlOk Try.prog kRd5 := orInl_ok kDt_ok kRd3_ok

/-- a number of four bytes -/
def rd4 (b : List UInt8) (a : Nat) (e : Int) : Int := (((((rdB b a e 4).getD 0 0).toNat * 256 + ((rdB b a e 4).getD 1 0).toNat) * 256 + ((rdB b a e 4).getD 2 0).toNat) * 256 + ((rdB b a e 4).getD 3 0).toNat : Nat)
/-- a record that is read: behind the name, type, class, time, length, data -/
def rzA1 (b : List UInt8) (a : Nat) (e : Int) : Nat := nmA b a e
def rzE1 (b : List UInt8) (a : Nat) (e : Int) : Int := nmE b a e
def rzA2 (b : List UInt8) (a : Nat) (e : Int) : Nat := rdA b (rzA1 b a e) (rzE1 b a e) 2
def rzE2 (b : List UInt8) (a : Nat) (e : Int) : Int := rdE b (rzA1 b a e) (rzE1 b a e) 2
def rzA3 (b : List UInt8) (a : Nat) (e : Int) : Nat := rdA b (rzA2 b a e) (rzE2 b a e) 2
def rzE3 (b : List UInt8) (a : Nat) (e : Int) : Int := rdE b (rzA2 b a e) (rzE2 b a e) 2
def rzA4 (b : List UInt8) (a : Nat) (e : Int) : Nat := rdA b (rzA3 b a e) (rzE3 b a e) 4
def rzE4 (b : List UInt8) (a : Nat) (e : Int) : Int := rdE b (rzA3 b a e) (rzE3 b a e) 4
def rzA5 (b : List UInt8) (a : Nat) (e : Int) : Nat := rdA b (rzA4 b a e) (rzE4 b a e) 2
def rzE5 (b : List UInt8) (a : Nat) (e : Int) : Int := rdE b (rzA4 b a e) (rzE4 b a e) 2
def rzTy (b : List UInt8) (a : Nat) (e : Int) : Int := (pr2 b (rzA1 b a e) (rzE1 b a e) : Nat)
def rzN (b : List UInt8) (a : Nat) (e : Int) : Nat := pr2 b (rzA4 b a e) (rzE4 b a e)
def rzA (b : List UInt8) (a : Nat) (e : Int) : Nat := rdA b (rzA5 b a e) (rzE5 b a e) (rzN b a e)
def rzE (b : List UInt8) (a : Nat) (e : Int) : Int := dtE b (rzA5 b a e) (rzE5 b a e) (rzTy b a e) (rzN b a e)
def rzR (b : List UInt8) (a : Nat) (e : Int) : DR := ⟨nmL b a e, rzTy b a e, (pr2 b (rzA2 b a e) (rzE2 b a e) : Nat), rd4 b (rzA3 b a e) (rzE3 b a e), dtB b (rzA5 b a e) (rzE5 b a e) (rzTy b a e) (rzN b a e)⟩

def rzG0 (b : List UInt8) (a : Nat) (e : Int) (n : Nat) : GoalX := { len := 42, tms := [(0, .ptr 0 0 0), (5, nilS)], opn := [(7, sI n), (8, sI 0)], oob := [(0, rdr b a e)], k := 0 }
def rzG (b : List UInt8) (a : Nat) (e : Int) (n i : Nat) (l : List DR) : GoalX := { len := 42, tms := [(0, .ptr 0 0 0)], opn := [(5, .sl 1 0 l.length none), (7, sI n), (8, sI i)], oob := [(1, objFlat 42 5 (rowsR l)), (0, rdr b a e)], k := 1 }
def rzX (b : List UInt8) (a : Nat) (e : Int) (l : List DR) : GoalX := { len := 42, opn := [(5, .sl 1 0 l.length none)], oob := [(0, rdr b a e), (1, objFlat 42 5 (rowsR l))], k := 1 }
def rzY (b : List UInt8) (a : Nat) (e : Int) : GoalX := { len := 42, tms := [(4, nilS)], oob := [(0, rdr b a e)], k := 0 }
def rzL (b : List UInt8) (a : Nat) (e : Int) (n : Nat) (a' : Nat) (e' : Int) (l : List DR) : LoopX := { ids := [], G := rzG0 b a e n, ex := .exit 0, E := rzX b a' e' l }
def rzLY (b : List UInt8) (a : Nat) (e : Int) (n : Nat) (a' : Nat) (e' : Int) : LoopX := { ids := [], G := rzG0 b a e n, ex := .ret, E := rzY b a' e' }
end Go.Proofs.Ytmilcpejchjleaa

/- Records that are read (runs). No condition. -/
namespace Go.Proofs.Ytmilcpejchjleaa
open Go.RowKit

set_option maxRecDepth 100000 in
theorem rc_step (b : List UInt8) (a : Nat) (e : Int) (n : Nat) (i : Nat) (l : List DR) (x0 : UInt8) (x1 : UInt8) (x2 : UInt8) (x3 : UInt8) : stepXS kRd5 [(127, { ob := [(1, 1)] }),
   (94, { op := [(7, 1, Hn.as (Co2.c (Co1.c (Co0.bytes [x0, x1, x2, x3]))))], br := [(9, true), (35, false)], ob := [(4, 1), (5, 1), (6, 1), (7, 1), (7, 3), (8, 4), (8, 5), (11, 3)] }),
   (138, { ob := [(2, 2)] })] Try.prog 94 3 (rzG b a e n i l) (rzG b (rzA b a e) (rzE b a e) n (i + 1) (l ++ [rzR b a e])) [2037] 1 [] =
   some (.normal,
   (decide ((↑i : Int) < (↑n : Int)) = true) ::
   ((0 : Int) ≤ (↑a : Int)) ::
   (List.length b ≤ 1000000) ::
   ((0 : Int) ≤ (↑(nmA b a e) : Int)) ::
   (List.length b ≤ 1000000) ::
   (nmA b a e ≤ List.length b) ::
   ((0 : Int) ≤ (↑(rdA b (nmA b a e) (nmE b a e) 2) : Int)) ::
   (List.length b ≤ 1000000) ::
   (rdA b (nmA b a e) (nmE b a e) 2 ≤ List.length b) ::
   ((0 : Int) ≤ (↑(rdA b (rdA b (nmA b a e) (nmE b a e) 2) (rdE b (nmA b a e) (nmE b a e) 2) 2) : Int)) ::
   (List.length b ≤ 1000000) ::
   (rdA b (rdA b (nmA b a e) (nmE b a e) 2) (rdE b (nmA b a e) (nmE b a e) 2) 2 ≤ List.length b) ::
   ((0 : Int) ≤ (4 : Int)) ::
   ((4 : Int) ≤ (1000000 : Int)) ::
   (True) ::
   (rdB b (rdA b (rdA b (nmA b a e) (nmE b a e) 2) (rdE b (nmA b a e) (nmE b a e) 2) 2) (rdE b (rdA b (nmA b a e) (nmE b a e) 2) (rdE b (nmA b a e) (nmE b a e) 2) 2) 4 = [x0, x1, x2, x3]) ::
   ((0 : Int) ≤ (↑(rdA b (rdA b (rdA b (nmA b a e) (nmE b a e) 2) (rdE b (nmA b a e) (nmE b a e) 2) 2) (rdE b (rdA b (nmA b a e) (nmE b a e) 2) (rdE b (nmA b a e) (nmE b a e) 2) 2) 4) : Int)) ::
   (List.length b ≤ 1000000) ::
   (rdA b (rdA b (rdA b (nmA b a e) (nmE b a e) 2) (rdE b (nmA b a e) (nmE b a e) 2) 2) (rdE b (rdA b (nmA b a e) (nmE b a e) 2) (rdE b (nmA b a e) (nmE b a e) 2) 2) 4 ≤ List.length b) ::
   ((0 : Int) ≤ (↑(rdA b (rdA b (rdA b (rdA b (nmA b a e) (nmE b a e) 2) (rdE b (nmA b a e) (nmE b a e) 2) 2) (rdE b (rdA b (nmA b a e) (nmE b a e) 2) (rdE b (nmA b a e) (nmE b a e) 2) 2) 4) (rdE b (rdA b (rdA b (nmA b a e) (nmE b a e) 2) (rdE b (nmA b a e) (nmE b a e) 2) 2) (rdE b (rdA b (nmA b a e) (nmE b a e) 2) (rdE b (nmA b a e) (nmE b a e) 2) 2) 4) 2) : Int)) ::
   (List.length b ≤ 1000000) ::
   (rdA b (rdA b (rdA b (rdA b (nmA b a e) (nmE b a e) 2) (rdE b (nmA b a e) (nmE b a e) 2) 2) (rdE b (rdA b (nmA b a e) (nmE b a e) 2) (rdE b (nmA b a e) (nmE b a e) 2) 2) 4) (rdE b (rdA b (rdA b (nmA b a e) (nmE b a e) 2) (rdE b (nmA b a e) (nmE b a e) 2) 2) (rdE b (rdA b (nmA b a e) (nmE b a e) 2) (rdE b (nmA b a e) (nmE b a e) 2) 2) 4) 2 ≤ List.length b) ::
   ((0 : Int) ≤ (↑(pr2 b (rdA b (rdA b (rdA b (nmA b a e) (nmE b a e) 2) (rdE b (nmA b a e) (nmE b a e) 2) 2) (rdE b (rdA b (nmA b a e) (nmE b a e) 2) (rdE b (nmA b a e) (nmE b a e) 2) 2) 4) (rdE b (rdA b (rdA b (nmA b a e) (nmE b a e) 2) (rdE b (nmA b a e) (nmE b a e) 2) 2) (rdE b (rdA b (nmA b a e) (nmE b a e) 2) (rdE b (nmA b a e) (nmE b a e) 2) 2) 4)) : Int) ∧ (↑(pr2 b (rdA b (rdA b (rdA b (nmA b a e) (nmE b a e) 2) (rdE b (nmA b a e) (nmE b a e) 2) 2) (rdE b (rdA b (nmA b a e) (nmE b a e) 2) (rdE b (nmA b a e) (nmE b a e) 2) 2) 4) (rdE b (rdA b (rdA b (nmA b a e) (nmE b a e) 2) (rdE b (nmA b a e) (nmE b a e) 2) 2) (rdE b (rdA b (nmA b a e) (nmE b a e) 2) (rdE b (nmA b a e) (nmE b a e) 2) 2) 4)) : Int) ≤ (1000000 : Int)) ::
   ((dtE b (rdA b (rdA b (rdA b (rdA b (nmA b a e) (nmE b a e) 2) (rdE b (nmA b a e) (nmE b a e) 2) 2) (rdE b (rdA b (nmA b a e) (nmE b a e) 2) (rdE b (nmA b a e) (nmE b a e) 2) 2) 4) (rdE b (rdA b (rdA b (nmA b a e) (nmE b a e) 2) (rdE b (nmA b a e) (nmE b a e) 2) 2) (rdE b (rdA b (nmA b a e) (nmE b a e) 2) (rdE b (nmA b a e) (nmE b a e) 2) 2) 4) 2) (rdE b (rdA b (rdA b (rdA b (nmA b a e) (nmE b a e) 2) (rdE b (nmA b a e) (nmE b a e) 2) 2) (rdE b (rdA b (nmA b a e) (nmE b a e) 2) (rdE b (nmA b a e) (nmE b a e) 2) 2) 4) (rdE b (rdA b (rdA b (nmA b a e) (nmE b a e) 2) (rdE b (nmA b a e) (nmE b a e) 2) 2) (rdE b (rdA b (nmA b a e) (nmE b a e) 2) (rdE b (nmA b a e) (nmE b a e) 2) 2) 4) 2) (↑(pr2 b (nmA b a e) (nmE b a e)) : Int) (pr2 b (rdA b (rdA b (rdA b (nmA b a e) (nmE b a e) 2) (rdE b (nmA b a e) (nmE b a e) 2) 2) (rdE b (rdA b (nmA b a e) (nmE b a e) 2) (rdE b (nmA b a e) (nmE b a e) 2) 2) 4) (rdE b (rdA b (rdA b (nmA b a e) (nmE b a e) 2) (rdE b (nmA b a e) (nmE b a e) 2) 2) (rdE b (rdA b (nmA b a e) (nmE b a e) 2) (rdE b (nmA b a e) (nmE b a e) 2) 2) 4)) != (0 : Int)) = false) ::
   (List.length (rowsR l) = List.length l) ::
   (List.length l + 1 ≤ 1000000000) ::
   ((List.length l + 1) * 72 ≤ 140737488355328) ::
   (AV.sl 2037 0 (List.length l + 1) none = AV.sl 2037 0 (List.length (l ++ [rzR b a e])) none) ::
   (iI (↑n : Int) = iI (↑n : Int)) ::
   (iI (IntKind.wrap IntKind.i64 ((↑i : Int) + (1 : Int))) = iI (↑(i + 1) : Int)) ::
   (SameO (some { t := 42, sz := 5, exact := false, fz := false, body := Body.flat (rowsR l ++ [[AV.view 1 (List.length (nmL b a e)) fun i => [AV.val (Value.string { data := List.toArray (List.getD (nmL b a e) i []) })], iI (↑(pr2 b (nmA b a e) (nmE b a e)) : Int), iI (↑(pr2 b (rdA b (nmA b a e) (nmE b a e) 2) (rdE b (nmA b a e) (nmE b a e) 2)) : Int), AV.val (Value.int IntKind.u32 (bits BinOp.or IntKind.u32 (IntKind.wrap IntKind.u32 (bits BinOp.or IntKind.u32 (IntKind.wrap IntKind.u32 (bits BinOp.or IntKind.u32 (IntKind.wrap IntKind.u32 (bits BinOp.or IntKind.u32 (0 : Int) (IntKind.wrap IntKind.u32 (↑(UInt8.toNat x0) : Int)) * (256 : Int))) (IntKind.wrap IntKind.u32 (↑(UInt8.toNat x1) : Int)) * (256 : Int))) (IntKind.wrap IntKind.u32 (↑(UInt8.toNat x2) : Int)) * (256 : Int))) (IntKind.wrap IntKind.u32 (↑(UInt8.toNat x3) : Int)))), AV.bytes (dtB b (rdA b (rdA b (rdA b (rdA b (nmA b a e) (nmE b a e) 2) (rdE b (nmA b a e) (nmE b a e) 2) 2) (rdE b (rdA b (nmA b a e) (nmE b a e) 2) (rdE b (nmA b a e) (nmE b a e) 2) 2) 4) (rdE b (rdA b (rdA b (nmA b a e) (nmE b a e) 2) (rdE b (nmA b a e) (nmE b a e) 2) 2) (rdE b (rdA b (nmA b a e) (nmE b a e) 2) (rdE b (nmA b a e) (nmE b a e) 2) 2) 4) 2) (rdE b (rdA b (rdA b (rdA b (nmA b a e) (nmE b a e) 2) (rdE b (nmA b a e) (nmE b a e) 2) 2) (rdE b (rdA b (nmA b a e) (nmE b a e) 2) (rdE b (nmA b a e) (nmE b a e) 2) 2) 4) (rdE b (rdA b (rdA b (nmA b a e) (nmE b a e) 2) (rdE b (nmA b a e) (nmE b a e) 2) 2) (rdE b (rdA b (nmA b a e) (nmE b a e) 2) (rdE b (nmA b a e) (nmE b a e) 2) 2) 4) 2) (↑(pr2 b (nmA b a e) (nmE b a e)) : Int) (pr2 b (rdA b (rdA b (rdA b (nmA b a e) (nmE b a e) 2) (rdE b (nmA b a e) (nmE b a e) 2) 2) (rdE b (rdA b (nmA b a e) (nmE b a e) 2) (rdE b (nmA b a e) (nmE b a e) 2) 2) 4) (rdE b (rdA b (rdA b (nmA b a e) (nmE b a e) 2) (rdE b (nmA b a e) (nmE b a e) 2) 2) (rdE b (rdA b (nmA b a e) (nmE b a e) 2) (rdE b (nmA b a e) (nmE b a e) 2) 2) 4)))]]) }) { t := 42, sz := 5, exact := false, fz := false, body := Body.flat (List.map (fun x => (AV.brecOn_1.go x (AV.ren._f (renX 1 [2037] 2041)) (renL._f (renX 1 [2037] 2041))).1) (rowsR (l ++ [rzR b a e]))) }) ::
   (SameO (some (objOne 146 [AV.bytes b, iI (↑(rdA b (rdA b (rdA b (rdA b (rdA b (nmA b a e) (nmE b a e) 2) (rdE b (nmA b a e) (nmE b a e) 2) 2) (rdE b (rdA b (nmA b a e) (nmE b a e) 2) (rdE b (nmA b a e) (nmE b a e) 2) 2) 4) (rdE b (rdA b (rdA b (nmA b a e) (nmE b a e) 2) (rdE b (nmA b a e) (nmE b a e) 2) 2) (rdE b (rdA b (nmA b a e) (nmE b a e) 2) (rdE b (nmA b a e) (nmE b a e) 2) 2) 4) 2) (rdE b (rdA b (rdA b (rdA b (nmA b a e) (nmE b a e) 2) (rdE b (nmA b a e) (nmE b a e) 2) 2) (rdE b (rdA b (nmA b a e) (nmE b a e) 2) (rdE b (nmA b a e) (nmE b a e) 2) 2) 4) (rdE b (rdA b (rdA b (nmA b a e) (nmE b a e) 2) (rdE b (nmA b a e) (nmE b a e) 2) 2) (rdE b (rdA b (nmA b a e) (nmE b a e) 2) (rdE b (nmA b a e) (nmE b a e) 2) 2) 4) 2) (pr2 b (rdA b (rdA b (rdA b (nmA b a e) (nmE b a e) 2) (rdE b (nmA b a e) (nmE b a e) 2) 2) (rdE b (rdA b (nmA b a e) (nmE b a e) 2) (rdE b (nmA b a e) (nmE b a e) 2) 2) 4) (rdE b (rdA b (rdA b (nmA b a e) (nmE b a e) 2) (rdE b (nmA b a e) (nmE b a e) 2) 2) (rdE b (rdA b (nmA b a e) (nmE b a e) 2) (rdE b (nmA b a e) (nmE b a e) 2) 2) 4))) : Int), iI (dtE b (rdA b (rdA b (rdA b (rdA b (nmA b a e) (nmE b a e) 2) (rdE b (nmA b a e) (nmE b a e) 2) 2) (rdE b (rdA b (nmA b a e) (nmE b a e) 2) (rdE b (nmA b a e) (nmE b a e) 2) 2) 4) (rdE b (rdA b (rdA b (nmA b a e) (nmE b a e) 2) (rdE b (nmA b a e) (nmE b a e) 2) 2) (rdE b (rdA b (nmA b a e) (nmE b a e) 2) (rdE b (nmA b a e) (nmE b a e) 2) 2) 4) 2) (rdE b (rdA b (rdA b (rdA b (nmA b a e) (nmE b a e) 2) (rdE b (nmA b a e) (nmE b a e) 2) 2) (rdE b (rdA b (nmA b a e) (nmE b a e) 2) (rdE b (nmA b a e) (nmE b a e) 2) 2) 4) (rdE b (rdA b (rdA b (nmA b a e) (nmE b a e) 2) (rdE b (nmA b a e) (nmE b a e) 2) 2) (rdE b (rdA b (nmA b a e) (nmE b a e) 2) (rdE b (nmA b a e) (nmE b a e) 2) 2) 4) 2) (↑(pr2 b (nmA b a e) (nmE b a e)) : Int) (pr2 b (rdA b (rdA b (rdA b (nmA b a e) (nmE b a e) 2) (rdE b (nmA b a e) (nmE b a e) 2) 2) (rdE b (rdA b (nmA b a e) (nmE b a e) 2) (rdE b (nmA b a e) (nmE b a e) 2) 2) 4) (rdE b (rdA b (rdA b (nmA b a e) (nmE b a e) 2) (rdE b (nmA b a e) (nmE b a e) 2) 2) (rdE b (rdA b (nmA b a e) (nmE b a e) 2) (rdE b (nmA b a e) (nmE b a e) 2) 2) 4)))])) (objOne 146 [AV.bytes b, iI (↑(rzA b a e) : Int), iI (rzE b a e)])) :: []) := by kernel_rfl

set_option maxRecDepth 100000 in
theorem rc_bad (b : List UInt8) (a : Nat) (e : Int) (n : Nat) (i : Nat) (l : List DR) (x0 : UInt8) (x1 : UInt8) (x2 : UInt8) (x3 : UInt8) : stepXS kRd5 [(127, { ob := [(1, 1)] }),
   (94, { op := [(7, 1, Hn.as (Co2.c (Co1.c (Co0.bytes [x0, x1, x2, x3]))))], br := [(9, true), (35, true)], ob := [(4, 1), (5, 1), (6, 1), (7, 1), (7, 3), (8, 4), (8, 5)] }),
   (138, { ob := [(2, 2)] })] Try.prog 94 3 (rzG b a e n i l) (rzY b (rzA b a e) (rzE b a e)) [] 1 [] =
   some (.ret,
   (decide ((↑i : Int) < (↑n : Int)) = true) ::
   ((0 : Int) ≤ (↑a : Int)) ::
   (List.length b ≤ 1000000) ::
   ((0 : Int) ≤ (↑(nmA b a e) : Int)) ::
   (List.length b ≤ 1000000) ::
   (nmA b a e ≤ List.length b) ::
   ((0 : Int) ≤ (↑(rdA b (nmA b a e) (nmE b a e) 2) : Int)) ::
   (List.length b ≤ 1000000) ::
   (rdA b (nmA b a e) (nmE b a e) 2 ≤ List.length b) ::
   ((0 : Int) ≤ (↑(rdA b (rdA b (nmA b a e) (nmE b a e) 2) (rdE b (nmA b a e) (nmE b a e) 2) 2) : Int)) ::
   (List.length b ≤ 1000000) ::
   (rdA b (rdA b (nmA b a e) (nmE b a e) 2) (rdE b (nmA b a e) (nmE b a e) 2) 2 ≤ List.length b) ::
   ((0 : Int) ≤ (4 : Int)) ::
   ((4 : Int) ≤ (1000000 : Int)) ::
   (True) ::
   (rdB b (rdA b (rdA b (nmA b a e) (nmE b a e) 2) (rdE b (nmA b a e) (nmE b a e) 2) 2) (rdE b (rdA b (nmA b a e) (nmE b a e) 2) (rdE b (nmA b a e) (nmE b a e) 2) 2) 4 = [x0, x1, x2, x3]) ::
   ((0 : Int) ≤ (↑(rdA b (rdA b (rdA b (nmA b a e) (nmE b a e) 2) (rdE b (nmA b a e) (nmE b a e) 2) 2) (rdE b (rdA b (nmA b a e) (nmE b a e) 2) (rdE b (nmA b a e) (nmE b a e) 2) 2) 4) : Int)) ::
   (List.length b ≤ 1000000) ::
   (rdA b (rdA b (rdA b (nmA b a e) (nmE b a e) 2) (rdE b (nmA b a e) (nmE b a e) 2) 2) (rdE b (rdA b (nmA b a e) (nmE b a e) 2) (rdE b (nmA b a e) (nmE b a e) 2) 2) 4 ≤ List.length b) ::
   ((0 : Int) ≤ (↑(rdA b (rdA b (rdA b (rdA b (nmA b a e) (nmE b a e) 2) (rdE b (nmA b a e) (nmE b a e) 2) 2) (rdE b (rdA b (nmA b a e) (nmE b a e) 2) (rdE b (nmA b a e) (nmE b a e) 2) 2) 4) (rdE b (rdA b (rdA b (nmA b a e) (nmE b a e) 2) (rdE b (nmA b a e) (nmE b a e) 2) 2) (rdE b (rdA b (nmA b a e) (nmE b a e) 2) (rdE b (nmA b a e) (nmE b a e) 2) 2) 4) 2) : Int)) ::
   (List.length b ≤ 1000000) ::
   (rdA b (rdA b (rdA b (rdA b (nmA b a e) (nmE b a e) 2) (rdE b (nmA b a e) (nmE b a e) 2) 2) (rdE b (rdA b (nmA b a e) (nmE b a e) 2) (rdE b (nmA b a e) (nmE b a e) 2) 2) 4) (rdE b (rdA b (rdA b (nmA b a e) (nmE b a e) 2) (rdE b (nmA b a e) (nmE b a e) 2) 2) (rdE b (rdA b (nmA b a e) (nmE b a e) 2) (rdE b (nmA b a e) (nmE b a e) 2) 2) 4) 2 ≤ List.length b) ::
   ((0 : Int) ≤ (↑(pr2 b (rdA b (rdA b (rdA b (nmA b a e) (nmE b a e) 2) (rdE b (nmA b a e) (nmE b a e) 2) 2) (rdE b (rdA b (nmA b a e) (nmE b a e) 2) (rdE b (nmA b a e) (nmE b a e) 2) 2) 4) (rdE b (rdA b (rdA b (nmA b a e) (nmE b a e) 2) (rdE b (nmA b a e) (nmE b a e) 2) 2) (rdE b (rdA b (nmA b a e) (nmE b a e) 2) (rdE b (nmA b a e) (nmE b a e) 2) 2) 4)) : Int) ∧ (↑(pr2 b (rdA b (rdA b (rdA b (nmA b a e) (nmE b a e) 2) (rdE b (nmA b a e) (nmE b a e) 2) 2) (rdE b (rdA b (nmA b a e) (nmE b a e) 2) (rdE b (nmA b a e) (nmE b a e) 2) 2) 4) (rdE b (rdA b (rdA b (nmA b a e) (nmE b a e) 2) (rdE b (nmA b a e) (nmE b a e) 2) 2) (rdE b (rdA b (nmA b a e) (nmE b a e) 2) (rdE b (nmA b a e) (nmE b a e) 2) 2) 4)) : Int) ≤ (1000000 : Int)) ::
   ((dtE b (rdA b (rdA b (rdA b (rdA b (nmA b a e) (nmE b a e) 2) (rdE b (nmA b a e) (nmE b a e) 2) 2) (rdE b (rdA b (nmA b a e) (nmE b a e) 2) (rdE b (nmA b a e) (nmE b a e) 2) 2) 4) (rdE b (rdA b (rdA b (nmA b a e) (nmE b a e) 2) (rdE b (nmA b a e) (nmE b a e) 2) 2) (rdE b (rdA b (nmA b a e) (nmE b a e) 2) (rdE b (nmA b a e) (nmE b a e) 2) 2) 4) 2) (rdE b (rdA b (rdA b (rdA b (nmA b a e) (nmE b a e) 2) (rdE b (nmA b a e) (nmE b a e) 2) 2) (rdE b (rdA b (nmA b a e) (nmE b a e) 2) (rdE b (nmA b a e) (nmE b a e) 2) 2) 4) (rdE b (rdA b (rdA b (nmA b a e) (nmE b a e) 2) (rdE b (nmA b a e) (nmE b a e) 2) 2) (rdE b (rdA b (nmA b a e) (nmE b a e) 2) (rdE b (nmA b a e) (nmE b a e) 2) 2) 4) 2) (↑(pr2 b (nmA b a e) (nmE b a e)) : Int) (pr2 b (rdA b (rdA b (rdA b (nmA b a e) (nmE b a e) 2) (rdE b (nmA b a e) (nmE b a e) 2) 2) (rdE b (rdA b (nmA b a e) (nmE b a e) 2) (rdE b (nmA b a e) (nmE b a e) 2) 2) 4) (rdE b (rdA b (rdA b (nmA b a e) (nmE b a e) 2) (rdE b (nmA b a e) (nmE b a e) 2) 2) (rdE b (rdA b (nmA b a e) (nmE b a e) 2) (rdE b (nmA b a e) (nmE b a e) 2) 2) 4)) != (0 : Int)) = true) ::
   (SameO (some (objOne 146 [AV.bytes b, iI (↑(rdA b (rdA b (rdA b (rdA b (rdA b (nmA b a e) (nmE b a e) 2) (rdE b (nmA b a e) (nmE b a e) 2) 2) (rdE b (rdA b (nmA b a e) (nmE b a e) 2) (rdE b (nmA b a e) (nmE b a e) 2) 2) 4) (rdE b (rdA b (rdA b (nmA b a e) (nmE b a e) 2) (rdE b (nmA b a e) (nmE b a e) 2) 2) (rdE b (rdA b (nmA b a e) (nmE b a e) 2) (rdE b (nmA b a e) (nmE b a e) 2) 2) 4) 2) (rdE b (rdA b (rdA b (rdA b (nmA b a e) (nmE b a e) 2) (rdE b (nmA b a e) (nmE b a e) 2) 2) (rdE b (rdA b (nmA b a e) (nmE b a e) 2) (rdE b (nmA b a e) (nmE b a e) 2) 2) 4) (rdE b (rdA b (rdA b (nmA b a e) (nmE b a e) 2) (rdE b (nmA b a e) (nmE b a e) 2) 2) (rdE b (rdA b (nmA b a e) (nmE b a e) 2) (rdE b (nmA b a e) (nmE b a e) 2) 2) 4) 2) (pr2 b (rdA b (rdA b (rdA b (nmA b a e) (nmE b a e) 2) (rdE b (nmA b a e) (nmE b a e) 2) 2) (rdE b (rdA b (nmA b a e) (nmE b a e) 2) (rdE b (nmA b a e) (nmE b a e) 2) 2) 4) (rdE b (rdA b (rdA b (nmA b a e) (nmE b a e) 2) (rdE b (nmA b a e) (nmE b a e) 2) 2) (rdE b (rdA b (nmA b a e) (nmE b a e) 2) (rdE b (nmA b a e) (nmE b a e) 2) 2) 4))) : Int), iI (dtE b (rdA b (rdA b (rdA b (rdA b (nmA b a e) (nmE b a e) 2) (rdE b (nmA b a e) (nmE b a e) 2) 2) (rdE b (rdA b (nmA b a e) (nmE b a e) 2) (rdE b (nmA b a e) (nmE b a e) 2) 2) 4) (rdE b (rdA b (rdA b (nmA b a e) (nmE b a e) 2) (rdE b (nmA b a e) (nmE b a e) 2) 2) (rdE b (rdA b (nmA b a e) (nmE b a e) 2) (rdE b (nmA b a e) (nmE b a e) 2) 2) 4) 2) (rdE b (rdA b (rdA b (rdA b (nmA b a e) (nmE b a e) 2) (rdE b (nmA b a e) (nmE b a e) 2) 2) (rdE b (rdA b (nmA b a e) (nmE b a e) 2) (rdE b (nmA b a e) (nmE b a e) 2) 2) 4) (rdE b (rdA b (rdA b (nmA b a e) (nmE b a e) 2) (rdE b (nmA b a e) (nmE b a e) 2) 2) (rdE b (rdA b (nmA b a e) (nmE b a e) 2) (rdE b (nmA b a e) (nmE b a e) 2) 2) 4) 2) (↑(pr2 b (nmA b a e) (nmE b a e)) : Int) (pr2 b (rdA b (rdA b (rdA b (nmA b a e) (nmE b a e) 2) (rdE b (nmA b a e) (nmE b a e) 2) 2) (rdE b (rdA b (nmA b a e) (nmE b a e) 2) (rdE b (nmA b a e) (nmE b a e) 2) 2) 4) (rdE b (rdA b (rdA b (nmA b a e) (nmE b a e) 2) (rdE b (nmA b a e) (nmE b a e) 2) 2) (rdE b (rdA b (nmA b a e) (nmE b a e) 2) (rdE b (nmA b a e) (nmE b a e) 2) 2) 4)))])) (objOne 146 [AV.bytes b, iI (↑(rzA b a e) : Int), iI (rzE b a e)])) :: []) := by kernel_rfl

set_option maxRecDepth 100000 in
theorem rc_end (b : List UInt8) (a : Nat) (e : Int) (n : Nat) (l : List DR) : stepXS kRd5 [(94, { br := [(9, false)] })] Try.prog 94 3 (rzG b a e n n l) (rzX b a e l) [1] 1 [] =
   some (.exit 0,
   (decide ((↑n : Int) < (↑n : Int)) = false) ::
   (AV.sl 1 0 (List.length l) none = AV.sl 1 0 (List.length l) none) ::
   (SameO (some (objOne 146 [AV.bytes b, iI (↑a : Int), iI e])) (objOne 146 [AV.bytes b, iI (↑a : Int), iI e])) ::
   (SameO (some { t := 42, sz := 5, exact := false, fz := false, body := Body.flat (rowsR l) }) { t := 42, sz := 5, exact := false, fz := false, body := Body.flat (List.map (fun x => (AV.brecOn_1.go x (AV.ren._f (renX 1 [1] 3)) (renL._f (renX 1 [1] 3))).1) (rowsR l)) }) :: []) := by kernel_rfl

set_option maxRecDepth 100000 in
theorem rc_ok (b : List UInt8) (a : Nat) (e : Int) (n : Nat) (a2 : Nat) (e2 : Int) (l : List DR) : outXS kRd5 [] Try.prog 94 [AV.ptr 0 0 0, iI (↑n : Int)] [(0, (objOne 146 [AV.bytes b, iI (↑a : Int), iI e]))] 1 [0, 1] [(3, rzL b a e n a2 e2 l)] =
   some (AV.sl 1 0 (List.length l) none, [(0, (objOne 146 [AV.bytes b, iI (↑a2 : Int), iI e2])), (1, { t := 42, sz := 5, exact := false, fz := false, body := Body.flat (rowsR l) })], 4,
   (iI (↑n : Int) = iI (↑n : Int)) ::
   (iI (0 : Int) = iI (0 : Int)) ::
   (SameO (some (objOne 146 [AV.bytes b, iI (↑a : Int), iI e])) (objOne 146 [AV.bytes b, iI (↑a : Int), iI e])) ::
   (EvXL Try.prog 1 (loopAt Try.prog 94 3) (GoalX.st (LoopX.G (rzL b a e n a2 e2 l)) 1) (LoopX.ex (rzL b a e n a2 e2 l)) (GoalX.st (LoopX.E (rzL b a e n a2 e2 l)) 1)) :: []) := by kernel_rfl

set_option maxRecDepth 100000 in
theorem rc_no (b : List UInt8) (a : Nat) (e : Int) (n : Nat) (a2 : Nat) (e2 : Int) : outXS kRd5 [] Try.prog 94 [AV.ptr 0 0 0, iI (↑n : Int)] [(0, (objOne 146 [AV.bytes b, iI (↑a : Int), iI e]))] 1 [0] [(3, rzLY b a e n a2 e2)] =
   some (AV.val (Value.slice none 0 0), [(0, (objOne 146 [AV.bytes b, iI (↑a2 : Int), iI e2]))], 1,
   (iI (↑n : Int) = iI (↑n : Int)) ::
   (iI (0 : Int) = iI (0 : Int)) ::
   (SameO (some (objOne 146 [AV.bytes b, iI (↑a : Int), iI e])) (objOne 146 [AV.bytes b, iI (↑a : Int), iI e])) ::
   (EvXL Try.prog 1 (loopAt Try.prog 94 3) (GoalX.st (LoopX.G (rzLY b a e n a2 e2)) 1) (LoopX.ex (rzLY b a e n a2 e2)) (GoalX.st (LoopX.E (rzLY b a e n a2 e2)) 1)) :: []) := by kernel_rfl

set_option maxRecDepth 100000 in
theorem qu_run (b : List UInt8) (a : Nat) (e : Int) : outXS kRd5 [(93, { ob := [(1, 1), (2, 1), (3, 1)] })] Try.prog 93 [AV.ptr 0 0 0] [(0, (objOne 146 [AV.bytes b, iI (↑a : Int), iI e]))] 1 [0] [] =
   some (AV.agg [AV.view 1 (List.length (nmL b a e)) fun i => [AV.val (Value.string { data := List.toArray (List.getD (nmL b a e) i []) })], iI (↑(pr2 b (nmA b a e) (nmE b a e)) : Int), iI (↑(pr2 b (rdA b (nmA b a e) (nmE b a e) 2) (rdE b (nmA b a e) (nmE b a e) 2)) : Int)], [(0, (objOne 146 [AV.bytes b, iI (↑(rdA b (rdA b (nmA b a e) (nmE b a e) 2) (rdE b (nmA b a e) (nmE b a e) 2) 2) : Int), iI (rdE b (rdA b (nmA b a e) (nmE b a e) 2) (rdE b (nmA b a e) (nmE b a e) 2) 2)]))], 914,
   ((0 : Int) ≤ (↑a : Int)) ::
   (List.length b ≤ 1000000) ::
   ((0 : Int) ≤ (↑(nmA b a e) : Int)) ::
   (List.length b ≤ 1000000) ::
   (nmA b a e ≤ List.length b) ::
   ((0 : Int) ≤ (↑(rdA b (nmA b a e) (nmE b a e) 2) : Int)) ::
   (List.length b ≤ 1000000) ::
   (rdA b (nmA b a e) (nmE b a e) 2 ≤ List.length b) :: []) := by kernel_rfl
end Go.Proofs.Ytmilcpejchjleaa

/- Records and questions that are read: what is yielded; known. -/
namespace Go.Proofs.Ytmilcpejchjleaa
open Go.RowKit
set_option linter.unusedSimpArgs false
set_option linter.unusedVariables false

section
variable {b : List UInt8} {a : Nat} {e : Int}
theorem rzA1_le (h : a ≤ b.length) : rzA1 b a e ≤ b.length := nmA_le h
theorem rzA2_le (h : a ≤ b.length) : rzA2 b a e ≤ b.length := rdA_le (rzA1_le h)
theorem rzA3_le (h : a ≤ b.length) : rzA3 b a e ≤ b.length := rdA_le (rzA2_le h)
theorem rzA4_le (h : a ≤ b.length) : rzA4 b a e ≤ b.length := rdA_le (rzA3_le h)
theorem rzA5_le (h : a ≤ b.length) : rzA5 b a e ≤ b.length := rdA_le (rzA4_le h)
theorem rzA_le (h : a ≤ b.length) : rzA b a e ≤ b.length := rdA_le (rzA5_le h)
end

/-- so many records: are they all there? where the reader is then, what was wrong; the records -/
def rzOk (b : List UInt8) : Nat → Nat → Int → Bool
  | 0, _, _ => true
  | k + 1, a, e => decide (rzE b a e = 0) && rzOk b k (rzA b a e) (rzE b a e)
def rzF (b : List UInt8) : Nat → Nat → Int → Nat × Int
  | 0, a, e => (a, e)
  | k + 1, a, e => if rzE b a e = 0 then rzF b k (rzA b a e) (rzE b a e) else (rzA b a e, rzE b a e)
def rzS (b : List UInt8) : Nat → Nat → Int → List DR
  | 0, _, _ => []
  | k + 1, a, e => rzR b a e :: rzS b k (rzA b a e) (rzE b a e)

theorem rz_loop (b : List UInt8) (n : Nat) (hb : b.length ≤ 1000000) (hn : n ≤ 1000) : ∀ (k i a : Nat) (e : Int) (l : List DR), i + k = n → l.length = i → a ≤ b.length →
    (rzOk b k a e = true → EvXL Try.prog 1 (loopAt Try.prog 94 3) ((rzG b a e n i l).st 1) (.exit 0) ((rzX b (rzF b k a e).1 (rzF b k a e).2 (l ++ rzS b k a e)).st 1)) ∧
    (rzOk b k a e = false → EvXL Try.prog 1 (loopAt Try.prog 94 3) ((rzG b a e n i l).st 1) .ret ((rzY b (rzF b k a e).1 (rzF b k a e).2).st 1))
  | 0, i, a, e, l, hk, hl, ha => by
    obtain rfl : i = n := by omega
    refine ⟨fun _ => ?_, fun h => by simp [rzOk] at h⟩
    have e1 : l ++ rzS b 0 a e = l := List.append_nil l
    rw [e1]
    exact EvXL.last (stepXS_ok kRd5_ok (rc_end b a e i l) (by
      repeat' (first | exact allNil | refine allCons ?_ ?_ | (with_reducible refine allRp _ ?_ ?_))
      all_goals first | (with_reducible rfl) | exact decide_eq_false (by omega) | exact same_rows RR (fun _ => rfl) rfl | exact rfl)) (by simp)
  | k + 1, i, a, e, l, hk, hl, ha => by
    have f1 : nmA b a e = rzA1 b a e := rfl
    have g1 : nmE b a e = rzE1 b a e := rfl
    have f2 : rdA b (rzA1 b a e) (rzE1 b a e) 2 = rzA2 b a e := rfl
    have g2 : rdE b (rzA1 b a e) (rzE1 b a e) 2 = rzE2 b a e := rfl
    have f3 : rdA b (rzA2 b a e) (rzE2 b a e) 2 = rzA3 b a e := rfl
    have g3 : rdE b (rzA2 b a e) (rzE2 b a e) 2 = rzE3 b a e := rfl
    have f4 : rdA b (rzA3 b a e) (rzE3 b a e) 4 = rzA4 b a e := rfl
    have g4 : rdE b (rzA3 b a e) (rzE3 b a e) 4 = rzE4 b a e := rfl
    have f5 : rdA b (rzA4 b a e) (rzE4 b a e) 2 = rzA5 b a e := rfl
    have g5 : rdE b (rzA4 b a e) (rzE4 b a e) 2 = rzE5 b a e := rfl
    have fN : pr2 b (rzA4 b a e) (rzE4 b a e) = rzN b a e := rfl
    have fT : ((pr2 b (rzA1 b a e) (rzE1 b a e) : Nat) : Int) = rzTy b a e := rfl
    have f6 : rdA b (rzA5 b a e) (rzE5 b a e) (rzN b a e) = rzA b a e := rfl
    have g6 : dtE b (rzA5 b a e) (rzE5 b a e) (rzTy b a e) (rzN b a e) = rzE b a e := rfl
    have l1 := rzA1_le (e := e) ha
    have l2 := rzA2_le (e := e) ha
    have l3 := rzA3_le (e := e) ha
    have l4 := rzA4_le (e := e) ha
    have l5 := rzA5_le (e := e) ha
    have l6 := rzA_le (e := e) ha
    have hN : rzN b a e < 65536 := pr2_lt _ _ _
    have x0 := ((rdB b (rzA3 b a e) (rzE3 b a e) 4).getD 0 0).toNat_lt
    have x1 := ((rdB b (rzA3 b a e) (rzE3 b a e) 4).getD 1 0).toNat_lt
    have x2 := ((rdB b (rzA3 b a e) (rzE3 b a e) 4).getD 2 0).toNat_lt
    have hx := len4 (rdB_len b (rzA3 b a e) (rzE3 b a e) 4)
    by_cases he : rzE b a e = 0
    · have hs : EvX Try.prog 1 (loopAt Try.prog 94 3) ((rzG b a e n i l).st 1) .normal ((rzG b (rzA b a e) (rzE b a e) n (i + 1) (l ++ [rzR b a e])).st 1) := stepXS_ok kRd5_ok (rc_step b a e n i l ((rdB b (rzA3 b a e) (rzE3 b a e) 4).getD 0 0) ((rdB b (rzA3 b a e) (rzE3 b a e) 4).getD 1 0) ((rdB b (rzA3 b a e) (rzE3 b a e) 4).getD 2 0) ((rdB b (rzA3 b a e) (rzE3 b a e) 4).getD 3 0)) (by
        simp only [f1, g1, f2, g2, f3, g3, f4, g4, f5, g5, fN, fT, f6, g6, num_first]
        rw [num_step _ _ (by omega), num_step _ _ (by omega), num_step _ _ (by omega)]
        repeat' (first | exact allNil | refine allCons ?_ ?_ | (with_reducible refine allRp _ ?_ ?_))
        all_goals first | (with_reducible rfl) | exact True.intro | exact decide_eq_true (by omega) | exact sI_succ i (by omega) | exact bne_eq_false_iff_eq.2 he | exact hx | omega | exact rowsR_len l | (rw [List.length_append]; rfl) | exact same_rows RR (fun _ => rfl) (rowsR_snoc l (rzR b a e)) | exact rfl)
      obtain ⟨ih1, ih2⟩ := rz_loop b n hb hn k (i + 1) (rzA b a e) (rzE b a e) (l ++ [rzR b a e]) (by omega) (by rw [List.length_append, hl]; rfl) l6
      have e1 : rzOk b (k + 1) a e = rzOk b k (rzA b a e) (rzE b a e) := by
        show (decide (rzE b a e = 0) && _) = _
        rw [decide_eq_true he]; rfl
      have e2 : rzF b (k + 1) a e = rzF b k (rzA b a e) (rzE b a e) := if_pos he
      have e3 : l ++ rzS b (k + 1) a e = l ++ [rzR b a e] ++ rzS b k (rzA b a e) (rzE b a e) := by
        show l ++ (rzR b a e :: rzS b k (rzA b a e) (rzE b a e)) = _
        simp
      rw [e1, e2, e3]
      exact ⟨fun h => EvXL.step hs (ih1 h), fun h => EvXL.step hs (ih2 h)⟩
    · have e1 : rzOk b (k + 1) a e = false := by
        show (decide (rzE b a e = 0) && _) = _
        rw [decide_eq_false he]; rfl
      have e2 : rzF b (k + 1) a e = (rzA b a e, rzE b a e) := if_neg he
      rw [e1, e2]
      refine ⟨(fun h => by cases h), fun _ => ?_⟩
      exact EvXL.last (stepXS_ok kRd5_ok (rc_bad b a e n i l ((rdB b (rzA3 b a e) (rzE3 b a e) 4).getD 0 0) ((rdB b (rzA3 b a e) (rzE3 b a e) 4).getD 1 0) ((rdB b (rzA3 b a e) (rzE3 b a e) 4).getD 2 0) ((rdB b (rzA3 b a e) (rzE3 b a e) 4).getD 3 0)) (by
        simp only [f1, g1, f2, g2, f3, g3, f4, g4, f5, g5, fN, fT, f6, g6]
        repeat' (first | exact allNil | refine allCons ?_ ?_ | (with_reducible refine allRp _ ?_ ?_))
        all_goals first | (with_reducible rfl) | exact True.intro | exact decide_eq_true (by omega) | exact bne_iff_ne.2 he | exact hx | omega | exact rfl)) (by simp)

/-- the records that a reader yields -/
def rzV (b : List UInt8) (n a : Nat) (e : Int) : List DR := if rzOk b n a e = true then rzS b n a e else []
theorem recs_call (b : List UInt8) (a : Nat) (e : Int) (n : Nat) (hb : b.length ≤ 1000000) (ha : a ≤ b.length) (hn : n ≤ 1000) :
    ACall Try.prog 94 [.ptr 0 0 0, sI n] [(0, rdr b a e)] 1 (vR (rzV b n a e)) [(0, rdr b (rzF b n a e).1 (rzF b n a e).2)] 20 := by
  obtain ⟨h1, h2⟩ := rz_loop b n hb hn n 0 a e [] (by omega) rfl ha
  unfold rzV
  cases ho : rzOk b n a e with
  | true =>
    rw [if_pos rfl]
    have h3 := h1 ho
    rw [List.nil_append] at h3
    have h4 : EvXL Try.prog 1 (loopAt Try.prog 94 3) ((rzG0 b a e n).st 1) (.exit 0) ((rzX b (rzF b n a e).1 (rzF b n a e).2 (rzS b n a e)).st 1) := EvXL.nil_in (G := rzG0 b a e n) (G1 := rzG b a e n 0 []) 5 [(0, .ptr 0 0 0)] _ 42 5 h3 rfl rfl rfl rfl rfl
    have h := outXS_ok kRd5_ok (rc_ok b a e n (rzF b n a e).1 (rzF b n a e).2 (rzS b n a e)) (by
      repeat' (first | exact allNil | refine allCons ?_ ?_ | (with_reducible refine allRp _ ?_ ?_))
      all_goals first | (with_reducible rfl) | exact h4 | exact rfl)
    refine (ACall.told (L2 := [(0, rdr b (rzF b n a e).1 (rzF b n a e).2)]) [1] h (fun id hid => by
      have e := List.mem_singleton.1 hid
      subst e
      exact ⟨_, rfl⟩) (fun id x hid => ?_) fun E w u hs hr => WR.frzRows hs rfl (List.mem_singleton.2 rfl) (.inr rfl) rfl rfl hr).upTo (by decide)
    simp only [hp] at hid
    split at hid
    · rename_i hi
      subst hi
      exact ⟨by decide, hid⟩
    · cases hid
  | false =>
    rw [if_neg (by simp)]
    have h3 := h2 ho
    have h4 : EvXL Try.prog 1 (loopAt Try.prog 94 3) ((rzG0 b a e n).st 1) .ret ((rzY b (rzF b n a e).1 (rzF b n a e).2).st 1) := EvXL.nil_in (G := rzG0 b a e n) (G1 := rzG b a e n 0 []) 5 [(0, .ptr 0 0 0)] _ 42 5 h3 rfl rfl rfl rfl rfl
    have h := outXS_ok kRd5_ok (rc_no b a e n (rzF b n a e).1 (rzF b n a e).2) (by
      repeat' (first | exact allNil | refine allCons ?_ ?_ | (with_reducible refine allRp _ ?_ ?_))
      all_goals first | (with_reducible rfl) | exact h4 | exact rfl)
    refine (ACall.told (L2 := [(0, rdr b (rzF b n a e).1 (rzF b n a e).2)]) [] h (by simp) (fun id x hx => ⟨by simp, hx⟩) fun E w u hs hr => ?_).upTo (by decide)
    rw [hr.val_inv]
    exact RR.nil_rep (Nat.zero_le _)
def kRs5 : Inl := kMeth 94 19 fun b a e ys =>
  match ys with
  | [.val (.int .i64 n)] => some (vR (rzV b n.toNat a e), (rzF b n.toNat a e).1, (rzF b n.toNat a e).2, [b.length ≤ 1000000, a ≤ b.length, 0 ≤ n ∧ n ≤ 1000])
  | _ => none
theorem kRs5_ok : InlOk Try.prog kRs5 := kMeth_ok fun b a e ys v a' e' q hF hq => by
  split at hF
  · rename_i n
    simp only [Option.some.injEq, Prod.mk.injEq] at hF
    obtain ⟨rfl, rfl, rfl, rfl⟩ := hF
    simp only [List.forall_mem_cons, List.not_mem_nil, false_implies, implies_true, and_true] at hq
    obtain ⟨q1, q2, q3⟩ := hq
    refine ⟨fun r => rfl, fun r => rfl, 20, by decide, ?_⟩
    have := recs_call b a e n.toNat q1 q2 (by omega)
    have e1 : ((n.toNat : Nat) : Int) = n := by omega
    unfold sI at this
    rwa [e1] at this
  · cases hF

/-- a question that is read -/
def qzQ (b : List UInt8) (a : Nat) (e : Int) : DQ := ⟨nmL b a e, rzTy b a e, (pr2 b (rzA2 b a e) (rzE2 b a e) : Nat)⟩
theorem ques_call (b : List UInt8) (a : Nat) (e : Int) (hb : b.length ≤ 1000000) (ha : a ≤ b.length) :
    ACall Try.prog 93 [.ptr 0 0 0] [(0, rdr b a e)] 1 (quA (qzQ b a e)) [(0, rdr b (rzA3 b a e) (rzE3 b a e))] 1100 := by
  have l1 : nmA b a e ≤ b.length := nmA_le ha
  have l2 : rdA b (nmA b a e) (nmE b a e) 2 ≤ b.length := rdA_le l1
  exact (outXS_ok kRd5_ok (qu_run b a e) (by
    repeat' (first | exact allNil | refine allCons ?_ ?_ | (with_reducible refine allRp _ ?_ ?_))
    all_goals first | (with_reducible rfl) | exact True.intro | omega)).upTo (by decide)
def kQu5 : Inl := kMeth 93 1099 fun b a e ys =>
  match ys with
  | [] => some (quA (qzQ b a e), rzA3 b a e, rzE3 b a e, [b.length ≤ 1000000, a ≤ b.length])
  | _ => none
theorem kQu5_ok : InlOk Try.prog kQu5 := kMeth_ok fun b a e ys v a' e' q hF hq => by
  split at hF
  · simp only [Option.some.injEq, Prod.mk.injEq] at hF
    obtain ⟨rfl, rfl, rfl, rfl⟩ := hF
    simp only [List.forall_mem_cons, List.not_mem_nil, false_implies, implies_true, and_true] at hq
    obtain ⟨q1, q2⟩ := hq
    exact ⟨fun r => rfl, fun r => rfl, 1100, by decide, ques_call b a e q1 q2⟩
  · cases hF
def kRd6 : Inl := orInl kRs5 (orInl kQu5 kRd3)
theorem kRd6_ok : InlOk Try.prog kRd6 := orInl_ok kRs5_ok (orInl_ok kQu5_ok kRd3_ok)
end Go.Proofs.Ytmilcpejchjleaa
