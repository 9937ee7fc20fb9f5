/- A table that keeps one talk, or none: words. -/
import Derived.Test.YtecmagdefllihaaFx
import Derived.Test.YtecmagdefllihaaRp
import Derived.Test.YtecmagdefllihaaCard
namespace Go.Proofs.Ytecmagdefllihaa
open Go.RowKit

def i64 (z : Int) : AV := .val (.int .i64 z)
def u8 (z : Int) : AV := .val (.int .u8 z)
def table (c : AV) : AObj := ⟨88, 2, true, false, .rows [[i64 4, c]]⟩
def talk (st : Int) (inw : Bool) : AObj := ⟨92, 8, false, false, .rows [[i64 1, u8 8, u8 8, u8 8, u8 1, i64 1, i64 st, .val (.bool inw)]]⟩

/-- how a talk stands behind a segment -/
def nxT (st : Int) (inw inn : Bool) (f : Int) : Int × Bool :=
  if bits .and .i64 f 4 ≠ 0 then (6, inw)
  else if st = 6 then (if bits .and .i64 f 18 = 2 then (1, inn) else (6, inw))
  else if 5 ≤ st then (st, inw)
  else if st = 4 then (if bits .and .i64 f 1 ≠ 0 ∧ inn ≠ inw then (5, inw) else (4, inw))
  else if bits .and .i64 f 1 ≠ 0 then (4, inn)
  else if st = 1 ∧ bits .and .i64 f 2 ≠ 0 ∧ inn ≠ inw then (2, inw)
  else if st = 2 ∧ bits .and .i64 f 18 = 16 then (3, inw)
  else (st, inw)
def nxS (st : Int) (inw inn : Bool) (f : Int) : Int := (nxT st inw inn f).1
def nxI (st : Int) (inw inn : Bool) (f : Int) : Bool := (nxT st inw inn f).2

theorem nxT_turn (st : Int) (inw inn : Bool) (f : Int) : nxT st (!inw) (!inn) f = (nxS st inw inn f, !nxI st inw inn f) := by
  unfold nxS nxI nxT
  by_cases h1 : bits .and .i64 f 4 = 0
  case neg => simp [h1]
  by_cases h2 : st = 6
  · by_cases h : bits .and .i64 f 18 = 2 <;> simp [h1, h2, h]
  by_cases h3 : 5 ≤ st
  · simp [h1, h2, h3]
  by_cases h5 : bits .and .i64 f 1 = 0
  · by_cases h4 : st = 4
    · simp [h1, h4, h5]
    by_cases h6 : bits .and .i64 f 2 = 0
    · by_cases h7 : st = 2 ∧ bits .and .i64 f 18 = 16
      · simp [h1, h5, h6, h7]
      · simp [h1, h2, h3, h4, h5, h6, h7]
    · by_cases h8 : st = 1
      · cases inw <;> cases inn <;> simp [h1, h5, h6, h8]
      · by_cases h7 : st = 2 ∧ bits .and .i64 f 18 = 16
        · simp [h1, h5, h6, h7]
        · simp [h1, h2, h3, h4, h5, h6, h7, h8]
  · by_cases h4 : st = 4
    · cases inw <;> cases inn <;> simp [h1, h4, h5]
    · simp [h1, h2, h3, h4, h5]
theorem nxS_turn (st : Int) (inw inn : Bool) (f : Int) : nxS st (!inw) (!inn) f = nxS st inw inn f := by
  have := nxT_turn st inw inn f
  unfold nxS
  rw [this]; rfl
theorem nxI_turn (st : Int) (inw inn : Bool) (f : Int) : nxI st (!inw) (!inn) f = !nxI st inw inn f := by
  have := nxT_turn st inw inn f
  unfold nxI
  rw [this]; rfl
end Go.Proofs.Ytecmagdefllihaa
