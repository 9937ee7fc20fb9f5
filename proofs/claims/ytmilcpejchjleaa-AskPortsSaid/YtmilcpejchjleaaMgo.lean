/- Several texts in one: Go0, GoRun, Go. -/
import Derived.Test.YtmilcpejchjleaaMna
import Derived.Test.YtmilcpejchjleaaBw
import Derived.Test.YtmilcpejchjleaaFr

/- Names that may be: words. -/
namespace Go.Proofs.Ytmilcpejchjleaa
open Go.RowKit

/-- a list of labels that nobody writes -/
def vS (ls : List (List UInt8)) : AV := .view 1 ls.length fun i => [sStr (ls.getD i [])]
def goodF : Nat → List (List UInt8) → Bool
  | _, [] => true
  | z, s :: r => if s.length < 1 ∨ 63 < s.length then false else if 255 < z + 1 + s.length then false else goodF (z + 1 + s.length) r
def goodN (ls : List (List UInt8)) : Bool := goodF 1 ls
def gdG (ls : List (List UInt8)) (i : Nat) (z : Nat) : GoalX := { len := 28, opn := [(6, vS ls), (7, sI ls.length), (8, sI i), (3, sI z)] }
def gdE : GoalX := { len := 28 }
def gdN : GoalX := { len := 28, tms := [(2, .val (.bool false))] }
def gdL (ls : List (List UInt8)) : LoopX := { ids := [], G := gdG ls 0 1, ex := .exit 0, E := gdE }
def gdR (ls : List (List UInt8)) : LoopX := { ids := [], G := gdG ls 0 1, ex := .ret, E := gdN }
end Go.Proofs.Ytmilcpejchjleaa

/- Names that may be, reckoned. (Printed by wip/tools/gen.py from wip/sym/XSGo.lean.) -/
namespace Go.Proofs.Ytmilcpejchjleaa
open Go.RowKit

set_option maxRecDepth 100000 in
theorem good_yes (ls : List (List UInt8)) : outXS noneKnown [] Try.prog 49 [AV.view 1 (List.length ls) fun i => [AV.val (Value.string { data := List.toArray (List.getD ls i []) })]] [] 0 [] [(3, gdL ls)] =
   some (AV.val (Value.bool true), [], 1,
   ((AV.view 1 (List.length ls) fun i => [AV.val (Value.string { data := List.toArray (List.getD ls i []) })]) = AV.view 1 (List.length ls) fun i => [AV.val (Value.string { data := List.toArray (List.getD ls i []) })]) ::
   (AV.val (Value.int IntKind.i64 (↑(List.length ls) : Int)) = AV.val (Value.int IntKind.i64 (↑(List.length ls) : Int))) ::
   (AV.val (Value.int IntKind.i64 (0 : Int)) = AV.val (Value.int IntKind.i64 (0 : Int))) ::
   (AV.val (Value.int IntKind.i64 (1 : Int)) = AV.val (Value.int IntKind.i64 (1 : Int))) ::
   (EvXL Try.prog 0 (loopAt Try.prog 49 3) (GoalX.st (LoopX.G (gdL ls)) 0) (LoopX.ex (gdL ls)) (GoalX.st (LoopX.E (gdL ls)) 0)) :: []) := by kernel_rfl

set_option maxRecDepth 100000 in
theorem good_no (ls : List (List UInt8)) : outXS noneKnown [] Try.prog 49 [AV.view 1 (List.length ls) fun i => [AV.val (Value.string { data := List.toArray (List.getD ls i []) })]] [] 0 [] [(3, gdR ls)] =
   some (AV.val (Value.bool false), [], 0,
   ((AV.view 1 (List.length ls) fun i => [AV.val (Value.string { data := List.toArray (List.getD ls i []) })]) = AV.view 1 (List.length ls) fun i => [AV.val (Value.string { data := List.toArray (List.getD ls i []) })]) ::
   (AV.val (Value.int IntKind.i64 (↑(List.length ls) : Int)) = AV.val (Value.int IntKind.i64 (↑(List.length ls) : Int))) ::
   (AV.val (Value.int IntKind.i64 (0 : Int)) = AV.val (Value.int IntKind.i64 (0 : Int))) ::
   (AV.val (Value.int IntKind.i64 (1 : Int)) = AV.val (Value.int IntKind.i64 (1 : Int))) ::
   (EvXL Try.prog 0 (loopAt Try.prog 49 3) (GoalX.st (LoopX.G (gdR ls)) 0) (LoopX.ex (gdR ls)) (GoalX.st (LoopX.E (gdR ls)) 0)) :: []) := by kernel_rfl

set_option maxRecDepth 100000 in
theorem good_step (ls : List (List UInt8)) (i : Nat) (z : Nat) : stepXS noneKnown [(49, { op := [(5, 7, .br false)], gd := [(5, 4, false), (5, 5, false), (5, 6, false)], br := [(9, true), (19, false), (26, false)], ob := [(4, 0)] })] Try.prog 49 3 (gdG ls i z) (gdG ls (i + 1) (z + 1 + List.length (List.getD ls i []))) [] 0 [] =
   some (.normal,
   (decide ((↑i : Int) < (↑(List.length ls) : Int)) = true) ::
   ((0 : Int) ≤ (↑i : Int) ∧ (↑i : Int) < (↑(List.length ls) : Int)) ::
   rp 4 (decide ((↑(List.length (List.getD ls i [])) : Int) < (1 : Int)) = false) (
   (decide ((↑(List.length (List.getD ls i [])) : Int) > (63 : Int)) = false) ::
   (decide (IntKind.wrap IntKind.i64 ((↑z : Int) + IntKind.wrap IntKind.i64 ((1 : Int) + (↑(List.length (List.getD ls i [])) : Int))) > (255 : Int)) = false) ::
   ((AV.view 1 (List.length ls) fun i => [AV.val (Value.string { data := List.toArray (List.getD ls i []) })]) = AV.view 1 (List.length ls) fun i => [AV.val (Value.string { data := List.toArray (List.getD ls i []) })]) ::
   (AV.val (Value.int IntKind.i64 (↑(List.length ls) : Int)) = AV.val (Value.int IntKind.i64 (↑(List.length ls) : Int))) ::
   (AV.val (Value.int IntKind.i64 (IntKind.wrap IntKind.i64 ((↑i : Int) + (1 : Int)))) = AV.val (Value.int IntKind.i64 (↑(i + 1) : Int))) ::
   (AV.val (Value.int IntKind.i64 (IntKind.wrap IntKind.i64 ((↑z : Int) + IntKind.wrap IntKind.i64 ((1 : Int) + (↑(List.length (List.getD ls i [])) : Int))))) = AV.val (Value.int IntKind.i64 (↑(z + 1 + List.length (List.getD ls i [])) : Int))) :: [])) := by kernel_rfl

set_option maxRecDepth 100000 in
theorem good_b1 (ls : List (List UInt8)) (i : Nat) (z : Nat) : stepXS noneKnown [(49, { op := [(5, 7, .br true)], gd := [(5, 4, true), (5, 5, true), (5, 6, true)], br := [(9, true)], ob := [(4, 0)] })] Try.prog 49 3 (gdG ls i z) (gdN) [] 0 [] =
   some (.ret,
   (decide ((↑i : Int) < (↑(List.length ls) : Int)) = true) ::
   ((0 : Int) ≤ (↑i : Int) ∧ (↑i : Int) < (↑(List.length ls) : Int)) ::
   rp 4 (decide ((↑(List.length (List.getD ls i [])) : Int) < (1 : Int)) = true) ( [])) := by kernel_rfl

set_option maxRecDepth 100000 in
theorem good_b2 (ls : List (List UInt8)) (i : Nat) (z : Nat) : stepXS noneKnown [(49, { op := [(5, 7, .br false)], gd := [(5, 4, false), (5, 5, false), (5, 6, false)], br := [(9, true), (19, true)], ob := [(4, 0)] })] Try.prog 49 3 (gdG ls i z) (gdN) [] 0 [] =
   some (.ret,
   (decide ((↑i : Int) < (↑(List.length ls) : Int)) = true) ::
   ((0 : Int) ≤ (↑i : Int) ∧ (↑i : Int) < (↑(List.length ls) : Int)) ::
   rp 4 (decide ((↑(List.length (List.getD ls i [])) : Int) < (1 : Int)) = false) (
   (decide ((↑(List.length (List.getD ls i [])) : Int) > (63 : Int)) = true) :: [])) := by kernel_rfl

set_option maxRecDepth 100000 in
theorem good_b3 (ls : List (List UInt8)) (i : Nat) (z : Nat) : stepXS noneKnown [(49, { op := [(5, 7, .br false)], gd := [(5, 4, false), (5, 5, false), (5, 6, false)], br := [(9, true), (19, false), (26, true)], ob := [(4, 0)] })] Try.prog 49 3 (gdG ls i z) (gdN) [] 0 [] =
   some (.ret,
   (decide ((↑i : Int) < (↑(List.length ls) : Int)) = true) ::
   ((0 : Int) ≤ (↑i : Int) ∧ (↑i : Int) < (↑(List.length ls) : Int)) ::
   rp 4 (decide ((↑(List.length (List.getD ls i [])) : Int) < (1 : Int)) = false) (
   (decide ((↑(List.length (List.getD ls i [])) : Int) > (63 : Int)) = false) ::
   (decide (IntKind.wrap IntKind.i64 ((↑z : Int) + IntKind.wrap IntKind.i64 ((1 : Int) + (↑(List.length (List.getD ls i [])) : Int))) > (255 : Int)) = true) :: [])) := by kernel_rfl

set_option maxRecDepth 100000 in
theorem good_end (ls : List (List UInt8)) (i : Nat) (z : Nat) : stepXS noneKnown [(49, { br := [(9, false)] })] Try.prog 49 3 (gdG ls i z) (gdE) [] 0 [] =
   some (.exit 0,
   (decide ((↑i : Int) < (↑(List.length ls) : Int)) = false) :: []) := by kernel_rfl
end Go.Proofs.Ytmilcpejchjleaa

/- Whether a name may be: what the program's function yields, for every list of labels that is not huge. -/
namespace Go.Proofs.Ytmilcpejchjleaa
open Go.RowKit

theorem goodWz (z n : Nat) (hz : z ≤ 255) (hn : n ≤ 1000000) : IntKind.wrap IntKind.i64 ((z : Int) + IntKind.wrap IntKind.i64 ((1 : Int) + (n : Int))) = ((z + 1 + n : Nat) : Int) := by
  rw [w64 (1 + (n : Int)) (by omega), w64 _ (by omega)]; omega

theorem good_loop (ls : List (List UInt8)) (hm : ls.length ≤ 1000000) (hl : ∀ i, (ls.getD i []).length ≤ 1000000) : ∀ (rest : List (List UInt8)) (i z : Nat), ls.drop i = rest → z ≤ 255 → i ≤ ls.length →
    EvXL Try.prog 0 (loopAt Try.prog 49 3) ((gdG ls i z).st 0) (if goodF z rest then .exit 0 else .ret) ((if goodF z rest then gdE else gdN).st 0)
  | [], i, z, h, hz, hil => by
    have hi : ls.length ≤ i := by simpa using h
    simp only [goodF, if_true]
    exact EvXL.last (stepXS_ok noneKnown_ok (good_end ls i z) (by
      repeat' (first | exact allNil | refine allCons ?_ ?_ | (with_reducible refine allRp _ ?_ ?_))
      all_goals (simp; omega))) (by simp)
  | s :: r, i, z, h, hz, hil => by
    have hi : i < ls.length := by
      rcases Nat.lt_or_ge i ls.length with h' | h'
      · exact h'
      · rw [List.drop_of_length_le h'] at h; cases h
    have hc := List.drop_eq_getElem_cons hi
    rw [h] at hc
    injection hc with hs hr
    have hg : ls.getD i [] = s := by rw [List.getD_eq_getElem?_getD, List.getElem?_eq_getElem hi, hs]; rfl
    have hln := hl i
    have hw := goodWz z (ls.getD i []).length hz hln
    rw [hg] at hw hln
    by_cases h1 : s.length < 1
    · have e : goodF z (s :: r) = false := if_pos (.inl h1)
      rw [e]
      simp only [Bool.false_eq_true, if_false]
      exact EvXL.last (stepXS_ok noneKnown_ok (good_b1 ls i z) (by
        rw [hg]
        repeat' (first | exact allNil | refine allCons ?_ ?_ | (with_reducible refine allRp _ ?_ ?_))
        all_goals first | (simp; omega) | (simp; done))) (by simp)
    by_cases h2 : 63 < s.length
    · have e : goodF z (s :: r) = false := if_pos (.inr h2)
      rw [e]
      simp only [Bool.false_eq_true, if_false]
      exact EvXL.last (stepXS_ok noneKnown_ok (good_b2 ls i z) (by
        rw [hg]
        repeat' (first | exact allNil | refine allCons ?_ ?_ | (with_reducible refine allRp _ ?_ ?_))
        all_goals first | (simp; omega) | (simp; done))) (by simp)
    have h12 : ¬ (s.length < 1 ∨ 63 < s.length) := by omega
    by_cases h3 : 255 < z + 1 + s.length
    · have e : goodF z (s :: r) = false := by unfold goodF; rw [if_neg h12, if_pos h3]
      rw [e]
      simp only [Bool.false_eq_true, if_false]
      exact EvXL.last (stepXS_ok noneKnown_ok (good_b3 ls i z) (by
        rw [hg, hw]
        repeat' (first | exact allNil | refine allCons ?_ ?_ | (with_reducible refine allRp _ ?_ ?_))
        all_goals first | (simp; omega) | (simp; done))) (by simp)
    · have e : goodF z (s :: r) = goodF (z + 1 + s.length) r := by rw [goodF, if_neg h12, if_neg h3]
      rw [e]
      refine EvXL.step (stepXS_ok noneKnown_ok (good_step ls i z) ?_) (by
        rw [hg]
        exact good_loop ls hm hl r (i + 1) (z + 1 + s.length) hr.symm (by omega) (by omega))
      rw [hg, hw]
      repeat' (first | exact allNil | refine allCons ?_ ?_ | (with_reducible refine allRp _ ?_ ?_))
      all_goals first | (with_reducible rfl) | exact sI_succ i (by omega) | (simp; omega) | (simp; done)

theorem good_call (ls : List (List UInt8)) (hm : ls.length ≤ 1000000) (hl : ∀ i, (ls.getD i []).length ≤ 1000000) (L : List (Nat × AObj)) (nx : Nat) : ACall Try.prog 49 [vS ls] L nx (.val (.bool (goodN ls))) L nx := by
  have hx : ∀ r, renL r [vS ls] = [vS ls] := fun r => rfl
  have h := good_loop ls hm hl ls 0 1 rfl (by decide) (by omega)
  unfold goodN
  cases hg : goodF 1 ls with
  | true =>
    rw [hg] at h
    refine (outXS_ok noneKnown_ok (good_yes ls) ?_).lift hx L nx
    repeat' (first | exact allNil | refine allCons ?_ ?_ | (with_reducible refine allRp _ ?_ ?_))
    all_goals first | (with_reducible rfl) | rfl | exact h
  | false =>
    rw [hg] at h
    refine (outXS_ok noneKnown_ok (good_no ls) ?_).lift hx L nx
    repeat' (first | exact allNil | refine allCons ?_ ?_ | (with_reducible refine allRp _ ?_ ?_))
    all_goals first | (with_reducible rfl) | rfl | exact h
end Go.Proofs.Ytmilcpejchjleaa
