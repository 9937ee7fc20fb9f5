/- Several texts in one: Gt0, Gt1. -/
import Derived.Test.YtmilcpejchjleaaMxe
import Derived.Test.YtmilcpejchjleaaMtx

/- A name that is read: the word for what is yielded, and plain facts of it. -/
namespace Go.Proofs.Ytmilcpejchjleaa
open Go.RowKit

/-- where a lead leads -/
def leadTo (b : List UInt8) (at_ : Nat) : Nat := ((b.getD at_ 0).toNat - 192) * 256 + (b.getD (at_ + 1) 0).toNat
/-- the place behind: told once -/
def nextP (nx : Int) (n : Nat) : Int := if nx < 0 then (n : Int) else nx
/-- so many rounds: a name's labels, the next place, the mistake -/
def getF (b : List UInt8) : Nat → Nat → Int → Nat → Nat → List (List UInt8) → List (List UInt8) × Int × Int
  | 0, _, _, _, _, _ => ([], 0, 4)
  | k + 1, at_, nx, ld, sz, l =>
    if b.length ≤ at_ then ([], 0, 3)
    else if (b.getD at_ 0).toNat = 0 then (l, nextP nx (at_ + 1), 0)
    else if 192 ≤ (b.getD at_ 0).toNat then
      if b.length ≤ at_ + 1 then ([], 0, 3)
      else if at_ ≤ leadTo b at_ ∨ 64 ≤ ld then ([], 0, 4)
      else getF b k (leadTo b at_) (nextP nx (at_ + 2)) (ld + 1) sz l
    else if 64 ≤ (b.getD at_ 0).toNat then ([], 0, 4)
    else if b.length < at_ + 1 + (b.getD at_ 0).toNat then ([], 0, 3)
    else if 253 < sz + (b.getD at_ 0).toNat then ([], 0, 4)
    else getF b k (at_ + 1 + (b.getD at_ 0).toNat) nx ld (sz + 1 + (b.getD at_ 0).toNat) (l ++ [(b.drop (at_ + 1)).take (b.getD at_ 0).toNat])
def getW (b : List UInt8) (at_ : Int) : List (List UInt8) × Int × Int := if at_ < 0 then ([], 0, 3) else getF b 400 at_.toNat (-1) 0 0 []
def getL (b : List UInt8) (at_ : Int) : List (List UInt8) := (getW b at_).1
def getN (b : List UInt8) (at_ : Int) : Int := (getW b at_).2.1
def getE (b : List UInt8) (at_ : Int) : Int := (getW b at_).2.2

/-- what a mistake's answer looks like -/
theorem getF_bad (b : List UInt8) : ∀ (k at_ : Nat) (nx : Int) (ld sz : Nat) (l : List (List UInt8)), (getF b k at_ nx ld sz l).2.2 ≠ 0 → (getF b k at_ nx ld sz l).1 = [] ∧ (getF b k at_ nx ld sz l).2.1 = 0
  | 0, _, _, _, _, _, _ => ⟨rfl, rfl⟩
  | k + 1, at_, nx, ld, sz, l, h => by
    unfold getF at h ⊢
    repeat' split
    all_goals first | exact ⟨rfl, rfl⟩ | skip
    all_goals simp_all only [if_true, if_false, ne_eq, not_true_eq_false, not_false_eq_true]
    all_goals exact getF_bad b _ _ _ _ _ _ h

theorem getW_bad {b : List UInt8} {at_ : Int} (h : getE b at_ ≠ 0) : getL b at_ = [] ∧ getN b at_ = 0 := by
  unfold getE getW at h
  unfold getL getN getW
  split
  · exact ⟨rfl, rfl⟩
  · rename_i hc
    rw [if_neg hc] at h
    exact getF_bad b _ _ _ _ _ _ h

/-! ### a name that was written is read -/
theorem getD_mid (p s q : List UInt8) (i : Nat) (h : i < s.length) : (p ++ (s ++ q)).getD (p.length + i) 0 = s.getD i 0 := by
  simp only [List.getD_eq_getElem?_getD]
  rw [List.getElem?_append_right (by omega), Nat.add_sub_cancel_left, List.getElem?_append_left h]

theorem getF_lab (p s q : List UInt8) (k : Nat) (nx : Int) (ld sz : Nat) (l : List (List UInt8)) (h1 : 1 ≤ s.length) (h63 : s.length ≤ 63) (hz : sz + s.length ≤ 253) :
    getF (p ++ (UInt8.ofNat s.length :: (s ++ q))) (k + 1) p.length nx ld sz l = getF (p ++ (UInt8.ofNat s.length :: (s ++ q))) k (p.length + 1 + s.length) nx ld (sz + 1 + s.length) (l ++ [s]) := by
  have e0 : ((p ++ (UInt8.ofNat s.length :: (s ++ q))).getD p.length 0).toNat = s.length := by
    have := getD_mid p (UInt8.ofNat s.length :: s) q 0 (by simp)
    simp only [Nat.add_zero, List.cons_append] at this
    rw [this]
    simp
    omega
  have e1 : ((p ++ (UInt8.ofNat s.length :: (s ++ q))).drop (p.length + 1)).take s.length = s := by
    rw [List.drop_append]
    simp [List.drop_of_length_le, Nat.add_sub_cancel_left]
  have e2 : (p ++ (UInt8.ofNat s.length :: (s ++ q))).length = p.length + 1 + s.length + q.length := by simp; omega
  rw [getF, e0, e1, e2]
  rw [if_neg (by omega), if_neg (by omega), if_neg (by omega), if_neg (by omega), if_neg (by omega), if_neg (by omega)]

theorem getF_enc : ∀ (ls : List (List UInt8)) (p q : List UInt8) (k : Nat) (nx : Int) (ld sz : Nat) (l : List (List UInt8)), goodF (sz + 1) ls = true →
    getF (p ++ (encL ls ++ q)) (k + ls.length) p.length nx ld sz l = getF (p ++ (encL ls ++ q)) k (p.length + (encL ls).length) nx ld (sz + (encL ls).length) (l ++ ls)
  | [], p, q, k, nx, ld, sz, l, _ => by simp [encL]
  | s :: r, p, q, k, nx, ld, sz, l, h => by
    have hg := h
    unfold goodF at hg
    split at hg
    · cases hg
    · split at hg
      · cases hg
      · rename_i h1 h2
        have e : p ++ (encL (s :: r) ++ q) = p ++ (UInt8.ofNat s.length :: (s ++ (encL r ++ q))) := by simp [encL]
        have e' : p ++ (encL (s :: r) ++ q) = (p ++ UInt8.ofNat s.length :: s) ++ (encL r ++ q) := by simp [encL]
        have hlen : (encL (s :: r)).length = 1 + s.length + (encL r).length := by simp [encL]; omega
        have ih := getF_enc r (p ++ UInt8.ofNat s.length :: s) q k nx ld (sz + 1 + s.length) (l ++ [s]) (by
          have : sz + 1 + s.length + 1 = sz + 1 + 1 + s.length := by omega
          rw [this]; exact hg)
        have ek : k + (s :: r).length = (k + r.length) + 1 := by simp; omega
        rw [ek, e, getF_lab p s _ _ _ _ _ _ (by omega) (by omega) (by omega), ← e, e']
        have ep : (p ++ UInt8.ofNat s.length :: s).length = p.length + 1 + s.length := by simp; omega
        rw [ep] at ih
        rw [ih, hlen]
        congr 1
        · omega
        · omega
        · simp

theorem goodF_count : ∀ (z : Nat) (r : List (List UInt8)), goodF z r = true → z + 2 * r.length ≤ 255 + 2 ∨ r = []
  | _, [], _ => .inr rfl
  | z, s :: r, h => by
    have hg := h
    unfold goodF at hg
    split at hg
    · cases hg
    · split at hg
      · cases hg
      · left
        rcases goodF_count _ r hg with h' | h'
        · simp only [List.length_cons]; omega
        · subst h'; simp only [List.length_cons, List.length_nil]; omega
end Go.Proofs.Ytmilcpejchjleaa

/- A name that is read: what the heads of the loops say. -/
namespace Go.Proofs.Ytmilcpejchjleaa
open Go.RowKit

def iI (z : Int) : AV := .val (.int .i64 z)
def rdO (b : List UInt8) (at_ : Nat) (nx : Int) (ld sz : Nat) (l : AV) : AObj := objOne 133 [.bytes b, sI at_, iI nx, sI ld, sI sz, l]
def nilS : AV := .val (.slice none 0 0)
def gtG (b : List UInt8) (at_ : Nat) (nx : Int) (ld sz : Nat) : GoalX := { len := 74, tms := [(7, .ptr 0 0 0)], opn := [(0, .bytes b)], oob := [(0, rdO b at_ nx ld sz nilS)], k := 1 }
def gtG1 (b : List UInt8) (at_ : Nat) (nx : Int) (ld sz : Nat) (l : List (List UInt8)) : GoalX := { len := 74, tms := [(7, .ptr 0 0 0)], opn := [(0, .bytes b)], oob := [(0, rdO b at_ nx ld sz (.sl 1 0 l.length none)), (1, objFlat 9 1 (rowsL l))], k := 2 }
def gtG1r (b : List UInt8) (at_ : Nat) (nx : Int) (ld sz : Nat) (l : List (List UInt8)) : GoalX := { len := 74, tms := [(7, .ptr 0 0 0)], opn := [(0, .bytes b)], oob := [(0, rdO b at_ nx ld sz (.sl 1 0 l.length none)), (1, objAppR 9 1 (rowsL l))], k := 2 }
def gtE0 (n : Int) : GoalX := { len := 74, tms := [(4, nilS), (6, iI 0)], opn := [(5, iI n)] }
def gtE1 (l : List (List UInt8)) (n : Int) : GoalX := { len := 74, tms := [(6, iI 0)], opn := [(4, .sl 0 0 l.length none), (5, iI n)], oob := [(0, objFlat 9 1 (rowsL l))], k := 1 }
def gtEB (e : Int) : GoalX := { len := 74, tms := [(4, nilS), (5, iI 0)], opn := [(6, iI e)] }
def gtL (b : List UInt8) (at_ : Nat) (E : GoalX) : LoopX := { ids := [6], G := gtG b at_ (-1) 0 0, ex := .ret, E := E }

def qgG (b : List UInt8) (at_ : Nat) (nx : Int) (ld sz : Nat) : GoalX := { len := 103, tms := [(7, nilS)], opn := [(0, .bytes b), (1, sI at_), (8, iI nx), (9, sI (sz + 1)), (10, sI ld)] }
def qgG1 (b : List UInt8) (at_ : Nat) (nx : Int) (ld sz : Nat) (l : List (List UInt8)) : GoalX := { len := 103, opn := [(7, .sl 0 0 l.length none), (0, .bytes b), (1, sI at_), (8, iI nx), (9, sI (sz + 1)), (10, sI ld)], oob := [(0, objFlat 9 1 (rowsL l))], k := 1 }
def qgG1r (b : List UInt8) (at_ : Nat) (nx : Int) (ld sz : Nat) (l : List (List UInt8)) : GoalX := { len := 103, opn := [(7, .sl 0 0 l.length none), (0, .bytes b), (1, sI at_), (8, iI nx), (9, sI (sz + 1)), (10, sI ld)], oob := [(0, objAppR 9 1 (rowsL l))], k := 1 }
def qgE0 (n : Int) : GoalX := { gtE0 n with len := 103 }
def qgE1 (l : List (List UInt8)) (n : Int) : GoalX := { gtE1 l n with len := 103 }
def qgEB (e : Int) : GoalX := { gtEB e with len := 103 }
def qgL (b : List UInt8) (at_ : Nat) (E : GoalX) : LoopX := { ids := [], G := qgG b at_ (-1) 0 0, ex := .ret, E := E }
theorem wNat {z : Int} (n : Nat) (h : z = (n : Int)) (hn : n ≤ 9000000000000000000) : IntKind.wrap IntKind.i64 z = (n : Int) := by rw [w64 _ (by omega), h]
end Go.Proofs.Ytmilcpejchjleaa
