/- Several texts in one: NrRun, NrLaw. -/
import Derived.Test.YtmilcpejchjleaaMqg

/- A name that is read: the law, reckoned. -/
namespace Go.Proofs.Ytmilcpejchjleaa
open Go.RowKit

set_option maxRecDepth 100000 in
theorem nr_long (b : List UInt8) (z : Int) : outXS kR0 [(11, { br := [(15, true)] })] Try.prog 11 [AV.bytes b, AV.val (Value.int IntKind.i64 z)] [] 0 [] [] =
   some (AV.val (Value.bool true), [], 7,
   [decide ((↑(List.length b) : Int) > (1500 : Int)) = true]) := by kernel_rfl

set_option maxRecDepth 100000 in
theorem nr_bad (b : List UInt8) (z : Int) : outXS kR0 [(11, { op := [(7, 7, .br true)], gd := [(7, 4, true), (7, 5, true), (7, 6, true)], br := [(15, false)], ob := [(5, 2), (5, 4)] })] Try.prog 11 [AV.bytes b, AV.val (Value.int IntKind.i64 z)] [] 0 [] [] =
   some (AV.val (Value.bool true), [], 92,
   [decide ((↑(List.length b) : Int) > (1500 : Int)) = false,
   True,
   (0 : Nat) = (0 : Nat) ∧ (0 : Nat) + List.length b ≤ (1000000000 : Nat),
   (0 : Nat) + ((0 : Nat) + List.length b) ≤ List.length b,
   List.length (List.take ((0 : Nat) + List.length b) b) ≤ (1000000000 : Nat),
   getE (List.take ((0 : Nat) + List.length b) b) z ≠ (0 : Int),
   True,
   List.length b ≤ (1000000000 : Nat),
   getE b z ≠ (0 : Int),
   (getE (List.take ((0 : Nat) + List.length b) b) z == getE b z) = true,
   (getE (List.take ((0 : Nat) + List.length b) b) z == getE b z) = true,
   (getE (List.take ((0 : Nat) + List.length b) b) z == getE b z) = true,
   (getE (List.take ((0 : Nat) + List.length b) b) z == getE b z) = true,
   Value.slice none (0 : Nat) (0 : Nat) = Value.slice none (0 : Nat) (0 : Nat),
   Value.slice none (0 : Nat) (0 : Nat) = Value.slice none (0 : Nat) (0 : Nat),
   (0 : Nat) ≤ (1000000000 : Nat)]) := by kernel_rfl

set_option maxRecDepth 100000 in
theorem nr_nil (b : List UInt8) (z : Int) : outXS kR1 [(11, { op := [(7, 12, .br true)], gd := [(7, 9, true), (7, 10, true), (7, 11, true)], br := [(15, false)], ob := [(5, 2), (5, 4)] })] Try.prog 11 [AV.bytes b, AV.val (Value.int IntKind.i64 z)] [] 0 [] [] =
   some (AV.val (Value.bool true), [], 42,
   [decide ((↑(List.length b) : Int) > (1500 : Int)) = false,
   True,
   (0 : Nat) = (0 : Nat) ∧ (0 : Nat) + List.length b ≤ (1000000000 : Nat),
   (0 : Nat) + ((0 : Nat) + List.length b) ≤ List.length b,
   List.length (List.take ((0 : Nat) + List.length b) b) ≤ (1000000000 : Nat),
   getE (List.take ((0 : Nat) + List.length b) b) z = (0 : Int),
   getL (List.take ((0 : Nat) + List.length b) b) z = [],
   True,
   List.length b ≤ (1000000000 : Nat),
   getE b z = (0 : Int),
   getL b z = [],
   (getN (List.take ((0 : Nat) + List.length b) b) z == getN b z) = true,
   (getN (List.take ((0 : Nat) + List.length b) b) z == getN b z) = true,
   (getN (List.take ((0 : Nat) + List.length b) b) z == getN b z) = true,
   Value.slice none (0 : Nat) (0 : Nat) = Value.slice none (0 : Nat) (0 : Nat),
   Value.slice none (0 : Nat) (0 : Nat) = Value.slice none (0 : Nat) (0 : Nat),
   (0 : Nat) ≤ (1000000000 : Nat),
   (getN (List.take ((0 : Nat) + List.length b) b) z == getN b z) = true]) := by kernel_rfl

set_option maxRecDepth 100000 in
theorem nr_ok (b : List UInt8) (z : Int) : outXS kR2 [(11, { op := [(7, 12, .br true)], gd := [(7, 9, true), (7, 10, true), (7, 11, true)], br := [(15, false)], ob := [(5, 2), (5, 4)] })] Try.prog 11 [AV.bytes b, AV.val (Value.int IntKind.i64 z)] [] 0 [] [] =
   some (AV.val (Value.bool (decide (txtL (List.take (List.length (getL (List.take ((0 : Nat) + List.length b) b) z)) (rowsL (getL (List.take ((0 : Nat) + List.length b) b) z))) = txtL (List.take (List.length (getL b z)) (rowsL (getL b z)))))), [], 44,
   [decide ((↑(List.length b) : Int) > (1500 : Int)) = false,
   True,
   (0 : Nat) = (0 : Nat) ∧ (0 : Nat) + List.length b ≤ (1000000000 : Nat),
   (0 : Nat) + ((0 : Nat) + List.length b) ≤ List.length b,
   List.length (List.take ((0 : Nat) + List.length b) b) ≤ (1000000000 : Nat),
   getE (List.take ((0 : Nat) + List.length b) b) z = (0 : Int),
   getL (List.take ((0 : Nat) + List.length b) b) z ≠ [],
   True,
   List.length b ≤ (1000000000 : Nat),
   getE b z = (0 : Int),
   getL b z ≠ [],
   (getN (List.take ((0 : Nat) + List.length b) b) z == getN b z) = true,
   (getN (List.take ((0 : Nat) + List.length b) b) z == getN b z) = true,
   (getN (List.take ((0 : Nat) + List.length b) b) z == getN b z) = true,
   txtP (List.take (List.length (getL (List.take ((0 : Nat) + List.length b) b) z)) (rowsL (getL (List.take ((0 : Nat) + List.length b) b) z))) ∧ (1 : Nat) = (1 : Nat) ∧ (0 : Nat) + List.length (getL (List.take ((0 : Nat) + List.length b) b) z) ≤ List.length (rowsL (getL (List.take ((0 : Nat) + List.length b) b) z)),
   txtP (List.take (List.length (getL b z)) (rowsL (getL b z))) ∧ (1 : Nat) = (1 : Nat) ∧ (0 : Nat) + List.length (getL b z) ≤ List.length (rowsL (getL b z)),
   List.length (txtL (List.take (List.length (getL (List.take ((0 : Nat) + List.length b) b) z)) (rowsL (getL (List.take ((0 : Nat) + List.length b) b) z)))) ≤ (1000000000 : Nat),
   (getN (List.take ((0 : Nat) + List.length b) b) z == getN b z) = true]) := by kernel_rfl
end Go.Proofs.Ytmilcpejchjleaa

/- A name that is read: the law NameReads answers true. -/
namespace Go.Proofs.Ytmilcpejchjleaa
open Go.RowKit
set_option linter.unusedSimpArgs false

theorem getF_count (b : List UInt8) : ∀ (k at_ : Nat) (nx : Int) (ld sz : Nat) (l : List (List UInt8)), (getF b k at_ nx ld sz l).1.length ≤ l.length + k
  | 0, _, _, _, _, _ => by simp [getF]
  | k + 1, at_, nx, ld, sz, l => by
    unfold getF
    repeat' split
    all_goals first | (simp; done) | skip
    · have := getF_count b k (leadTo b at_) (nextP nx (at_ + 2)) (ld + 1) sz l
      omega
    · have := getF_count b k (at_ + 1 + (b.getD at_ 0).toNat) nx ld (sz + 1 + (b.getD at_ 0).toNat) (l ++ [(b.drop (at_ + 1)).take (b.getD at_ 0).toNat])
      rw [List.length_append, List.length_singleton] at this
      omega
theorem getL_count (b : List UInt8) (z : Int) : (getL b z).length ≤ 400 := by
  unfold getL getW
  split
  · simp
  · have := getF_count b 400 z.toNat (-1) 0 0 []
    simpa using this

/-- a list out of rows -/
theorem txtL_take (es : List (List UInt8)) : txtL (List.take es.length (rowsL es)) = es := by
  have e : List.take es.length (rowsL es) = rowsL es := List.take_of_length_le (by simp [rowsL])
  rw [e, txtL_rows]
theorem txtP_take (es : List (List UInt8)) : txtP (List.take es.length (rowsL es)) ∧ (1 : Nat) = 1 ∧ 0 + es.length ≤ (rowsL es).length := by
  have e : List.take es.length (rowsL es) = rowsL es := List.take_of_length_le (by simp [rowsL])
  rw [e]
  exact ⟨txtP_rows es, rfl, by simp [rowsL]⟩

theorem nameReads_walk (b : List UInt8) (z : Int) : ∃ L' nx', ACall Try.prog 11 [.bytes b, .val (.int .i64 z)] [] 0 (.val (.bool true)) L' nx' := by
  by_cases hb : b.length > 1500
  · exact ⟨_, _, outXS_ok (kR_ok 0) (nr_long b z) (allCons (decide_eq_true (by omega)) allNil)⟩
  have hb0 : decide ((b.length : Int) > (1500 : Int)) = false := decide_eq_false (by omega)
  have et : List.take (0 + b.length) b = b := List.take_of_length_le (by omega)
  have hc := getL_count b z
  by_cases he : getE b z = 0
  · by_cases hl : getL b z = []
    · refine ⟨_, _, outXS_ok (kR_ok 1) (nr_nil b z) ?_⟩
      rw [et]
      repeat' (first | exact allNil | refine allCons ?_ ?_ | (with_reducible refine allRp _ ?_ ?_))
      all_goals first | exact hb0 | exact True.intro | exact he | exact hl | (with_reducible rfl) | omega | (simp; done) | (simp; omega)
    · have h := outXS_ok (kR_ok 2) (nr_ok b z) (by
        rw [et]
        have h1 := txtP_take (getL b z)
        have h2 : (txtL (List.take (getL b z).length (rowsL (getL b z)))).length ≤ 1000000000 := by rw [txtL_take]; omega
        repeat' (first | exact allNil | refine allCons ?_ ?_ | (with_reducible refine allRp _ ?_ ?_))
        all_goals first | exact hb0 | exact True.intro | exact he | exact hl | exact h1 | exact h2 | (with_reducible rfl) | omega | (simp; done) | (simp; omega))
      rw [et, txtL_take, decide_eq_true (rfl : getL b z = getL b z)] at h
      exact ⟨_, _, h⟩
  · refine ⟨_, _, outXS_ok (kR_ok 0) (nr_bad b z) ?_⟩
    rw [et]
    repeat' (first | exact allNil | refine allCons ?_ ?_ | (with_reducible refine allRp _ ?_ ?_))
    all_goals first | exact hb0 | exact True.intro | exact he | (with_reducible rfl) | omega | (simp; done) | (simp; omega)
end Go.Proofs.Ytmilcpejchjleaa
