/- Several texts in one: Sa0, SaRun, Sa, Sb. -/
import Derived.Test.YtmilcpejchjleaaMqg

/- Names that are alike: words, and what the loops' heads say. -/
namespace Go.Proofs.Ytmilcpejchjleaa
open Go.RowKit

def sameN : List (List UInt8) → List (List UInt8) → Bool
  | [], [] => true
  | s :: r, t :: q => alikeB s t && sameN r q
  | _, _ => false
theorem sameN_len : ∀ (a b : List (List UInt8)), a.length ≠ b.length → sameN a b = false
  | [], [], h => absurd rfl h
  | [], _ :: _, _ => rfl
  | _ :: _, [], _ => rfl
  | s :: r, t :: q, h => by
    rw [sameN, sameN_len r q (by simpa using h)]
    simp

def kSameS : Inl := fun g xs L nx =>
  if g = 87 then
    match xs with
    | [x, y] => some (.val (.bool (alikeB (strB [x]) (strB [y]))), L, nx, [x = sStr (strB [x]), y = sStr (strB [y]), (strB [x]).length ≤ 1000000000])
    | _ => none
  else none
theorem kSameS_ok : InlOk Try.prog kSameS := by
  intro g xs L nx v L' nx' q h hq
  unfold kSameS at h
  split at h
  · rename_i hg
    subst hg
    split at h
    · rename_i x y
      simp only [Option.some.injEq, Prod.mk.injEq] at h
      obtain ⟨rfl, rfl, rfl, rfl⟩ := h
      simp only [List.forall_mem_cons, List.not_mem_nil, false_implies, implies_true, and_true] at hq
      obtain ⟨q1, q2, q3⟩ := hq
      refine ⟨?_, Nat.le_refl _⟩
      have h3 := same_call (strB [x]) (strB [y]) q3 L nx
      rw [← q1, ← q2] at h3
      exact h3
    · cases h
  · cases h
/-- the document's small letter -/
def kLower : Inl := fun g xs L nx =>
  if g = 88 then
    match xs with
    | [.val (.int .u8 z)] => some (.val (.int .u8 (low z)), L, nx, [0 ≤ z ∧ z < 256])
    | _ => none
  else none

def saG (a b : List (List UInt8)) (i : Nat) : GoalX := { len := 32, opn := [(2, .fn (.func 87) []), (15, vS a), (1, vS b), (16, sI a.length), (17, sI i)] }
def saE : GoalX := { len := 32 }
def saN : GoalX := { len := 32, tms := [(6, .val (.bool false))] }
def saL (a b : List (List UInt8)) : LoopX := { ids := [], G := saG a b 0, ex := .exit 0, E := saE }
def saR (a b : List (List UInt8)) : LoopX := { ids := [], G := saG a b 0, ex := .ret, E := saN }

def sbG (a b : List (List UInt8)) (i : Nat) : GoalX := { len := 53, opn := [(0, vS a), (1, vS b), (5, sI i)] }
def sbH (a b : List (List UInt8)) (i k : Nat) : GoalX := { len := 53, opn := [(0, vS a), (1, vS b), (5, sI i), (6, sI k)] }
def sbE : GoalX := { len := 53 }
def sbN : GoalX := { len := 53, tms := [(4, .val (.bool false))] }
def sbL (a b : List (List UInt8)) : LoopX := { ids := [], G := sbG a b 0, ex := .exit 0, E := sbE }
def sbR (a b : List (List UInt8)) : LoopX := { ids := [], G := sbG a b 0, ex := .ret, E := sbN }
def siL (a b : List (List UInt8)) (i : Nat) : LoopX := { ids := [], G := sbH a b i 0, ex := .exit 2, E := sbG a b i }
def siR (a b : List (List UInt8)) (i : Nat) : LoopX := { ids := [], G := sbH a b i 0, ex := .ret, E := sbN }
end Go.Proofs.Ytmilcpejchjleaa

/- Names that are alike, reckoned. -/
namespace Go.Proofs.Ytmilcpejchjleaa
open Go.RowKit

set_option maxRecDepth 100000 in
theorem sa_len (a : List (List UInt8)) (b : List (List UInt8)) : outXS kSameS [(86, { br := [(14, true)] })] Try.prog 86 [AV.view (1 : Nat) (List.length a) fun i => [AV.val (Value.string { data := List.toArray (List.getD a i []) })], AV.view (1 : Nat) (List.length b) fun i => [AV.val (Value.string { data := List.toArray (List.getD b i []) })], AV.fn (Fn.func (87 : Nat)) []] [] 0 [] [] =
   some (AV.val (Value.bool false), [], 7,
   [((↑(List.length a) : Int) != (↑(List.length b) : Int)) = true]) := by kernel_rfl

set_option maxRecDepth 100000 in
theorem sa_yes (a : List (List UInt8)) (b : List (List UInt8)) : outXS kSameS [(86, { br := [(14, false)] })] Try.prog 86 [AV.view (1 : Nat) (List.length a) fun i => [AV.val (Value.string { data := List.toArray (List.getD a i []) })], AV.view (1 : Nat) (List.length b) fun i => [AV.val (Value.string { data := List.toArray (List.getD b i []) })], AV.fn (Fn.func (87 : Nat)) []] [] 0 [] [(4, saL a b)] =
   some (AV.val (Value.bool true), [], 1,
   [((↑(List.length a) : Int) != (↑(List.length b) : Int)) = false,
   AV.fn (Fn.func (87 : Nat)) [] = AV.fn (Fn.func (87 : Nat)) [],
   (AV.view (1 : Nat) (List.length a) fun i => [AV.val (Value.string { data := List.toArray (List.getD a i []) })]) = AV.view (1 : Nat) (List.length a) fun i => [AV.val (Value.string { data := List.toArray (List.getD a i []) })],
   (AV.view (1 : Nat) (List.length b) fun i => [AV.val (Value.string { data := List.toArray (List.getD b i []) })]) = AV.view (1 : Nat) (List.length b) fun i => [AV.val (Value.string { data := List.toArray (List.getD b i []) })],
   AV.val (Value.int IntKind.i64 (↑(List.length a) : Int)) = AV.val (Value.int IntKind.i64 (↑(List.length a) : Int)),
   AV.val (Value.int IntKind.i64 (0 : Int)) = AV.val (Value.int IntKind.i64 (0 : Int)),
   EvXL Try.prog 0 (loopAt Try.prog 86 4) (GoalX.st (LoopX.G (saL a b)) 0) (LoopX.ex (saL a b)) (GoalX.st (LoopX.E (saL a b)) 0)]) := by kernel_rfl

set_option maxRecDepth 100000 in
theorem sa_no (a : List (List UInt8)) (b : List (List UInt8)) : outXS kSameS [(86, { br := [(14, false)] })] Try.prog 86 [AV.view (1 : Nat) (List.length a) fun i => [AV.val (Value.string { data := List.toArray (List.getD a i []) })], AV.view (1 : Nat) (List.length b) fun i => [AV.val (Value.string { data := List.toArray (List.getD b i []) })], AV.fn (Fn.func (87 : Nat)) []] [] 0 [] [(4, saR a b)] =
   some (AV.val (Value.bool false), [], 0,
   [((↑(List.length a) : Int) != (↑(List.length b) : Int)) = false,
   AV.fn (Fn.func (87 : Nat)) [] = AV.fn (Fn.func (87 : Nat)) [],
   (AV.view (1 : Nat) (List.length a) fun i => [AV.val (Value.string { data := List.toArray (List.getD a i []) })]) = AV.view (1 : Nat) (List.length a) fun i => [AV.val (Value.string { data := List.toArray (List.getD a i []) })],
   (AV.view (1 : Nat) (List.length b) fun i => [AV.val (Value.string { data := List.toArray (List.getD b i []) })]) = AV.view (1 : Nat) (List.length b) fun i => [AV.val (Value.string { data := List.toArray (List.getD b i []) })],
   AV.val (Value.int IntKind.i64 (↑(List.length a) : Int)) = AV.val (Value.int IntKind.i64 (↑(List.length a) : Int)),
   AV.val (Value.int IntKind.i64 (0 : Int)) = AV.val (Value.int IntKind.i64 (0 : Int)),
   EvXL Try.prog 0 (loopAt Try.prog 86 4) (GoalX.st (LoopX.G (saR a b)) 0) (LoopX.ex (saR a b)) (GoalX.st (LoopX.E (saR a b)) 0)]) := by kernel_rfl

set_option maxRecDepth 100000 in
theorem sa_step (a : List (List UInt8)) (b : List (List UInt8)) (i : Nat) : stepXS kSameS [(86, { br := [(18, true), (30, false)], ob := [(5, 1), (6, 2)] })] Try.prog 86 4 (saG a b i) (saG a b (i + (1 : Nat))) [] 0 [] =
   some (.normal,
   [decide ((↑i : Int) < (↑(List.length a) : Int)) = true,
   (0 : Int) ≤ (↑i : Int) ∧ (↑i : Int) < (↑(List.length a) : Int),
   (0 : Int) ≤ (↑i : Int) ∧ (↑i : Int) < (↑(List.length b) : Int),
   AV.val (Value.string { data := List.toArray (List.getD a i []) }) = AV.val (Value.string { data := List.toArray (strB [AV.val (Value.string { data := List.toArray (List.getD a i []) })]) }),
   AV.val (Value.string { data := List.toArray (List.getD b i []) }) = AV.val (Value.string { data := List.toArray (strB [AV.val (Value.string { data := List.toArray (List.getD b i []) })]) }),
   List.length (strB [AV.val (Value.string { data := List.toArray (List.getD a i []) })]) ≤ (1000000000 : Nat),
   (!alikeB (strB [AV.val (Value.string { data := List.toArray (List.getD a i []) })]) (strB [AV.val (Value.string { data := List.toArray (List.getD b i []) })])) = false,
   AV.fn (Fn.func (87 : Nat)) [] = AV.fn (Fn.func (87 : Nat)) [],
   (AV.view (1 : Nat) (List.length a) fun i => [AV.val (Value.string { data := List.toArray (List.getD a i []) })]) = AV.view (1 : Nat) (List.length a) fun i => [AV.val (Value.string { data := List.toArray (List.getD a i []) })],
   (AV.view (1 : Nat) (List.length b) fun i => [AV.val (Value.string { data := List.toArray (List.getD b i []) })]) = AV.view (1 : Nat) (List.length b) fun i => [AV.val (Value.string { data := List.toArray (List.getD b i []) })],
   AV.val (Value.int IntKind.i64 (↑(List.length a) : Int)) = AV.val (Value.int IntKind.i64 (↑(List.length a) : Int)),
   AV.val (Value.int IntKind.i64 (IntKind.wrap IntKind.i64 ((↑i : Int) + (1 : Int)))) = AV.val (Value.int IntKind.i64 (↑(i + (1 : Nat)) : Int))]) := by kernel_rfl

set_option maxRecDepth 100000 in
theorem sa_b (a : List (List UInt8)) (b : List (List UInt8)) (i : Nat) : stepXS kSameS [(86, { br := [(18, true), (30, true)], ob := [(5, 1), (6, 2)] })] Try.prog 86 4 (saG a b i) (saN) [] 0 [] =
   some (.ret,
   [decide ((↑i : Int) < (↑(List.length a) : Int)) = true,
   (0 : Int) ≤ (↑i : Int) ∧ (↑i : Int) < (↑(List.length a) : Int),
   (0 : Int) ≤ (↑i : Int) ∧ (↑i : Int) < (↑(List.length b) : Int),
   AV.val (Value.string { data := List.toArray (List.getD a i []) }) = AV.val (Value.string { data := List.toArray (strB [AV.val (Value.string { data := List.toArray (List.getD a i []) })]) }),
   AV.val (Value.string { data := List.toArray (List.getD b i []) }) = AV.val (Value.string { data := List.toArray (strB [AV.val (Value.string { data := List.toArray (List.getD b i []) })]) }),
   List.length (strB [AV.val (Value.string { data := List.toArray (List.getD a i []) })]) ≤ (1000000000 : Nat),
   (!alikeB (strB [AV.val (Value.string { data := List.toArray (List.getD a i []) })]) (strB [AV.val (Value.string { data := List.toArray (List.getD b i []) })])) = true]) := by kernel_rfl

set_option maxRecDepth 100000 in
theorem sa_end (a : List (List UInt8)) (b : List (List UInt8)) (i : Nat) : stepXS kSameS [(86, { br := [(18, false)] })] Try.prog 86 4 (saG a b i) (saE) [] 0 [] =
   some (.exit 0,
   [decide ((↑i : Int) < (↑(List.length a) : Int)) = false]) := by kernel_rfl

set_option maxRecDepth 100000 in
theorem sb_len (a : List (List UInt8)) (b : List (List UInt8)) : outXS kLower [(54, { br := [(11, true)] })] Try.prog 54 [AV.view (1 : Nat) (List.length a) fun i => [AV.val (Value.string { data := List.toArray (List.getD a i []) })], AV.view (1 : Nat) (List.length b) fun i => [AV.val (Value.string { data := List.toArray (List.getD b i []) })]] [] 0 [] [] =
   some (AV.val (Value.bool false), [], 7,
   [((↑(List.length a) : Int) != (↑(List.length b) : Int)) = true]) := by kernel_rfl

set_option maxRecDepth 100000 in
theorem sb_yes (a : List (List UInt8)) (b : List (List UInt8)) : outXS kLower [(54, { br := [(11, false)] })] Try.prog 54 [AV.view (1 : Nat) (List.length a) fun i => [AV.val (Value.string { data := List.toArray (List.getD a i []) })], AV.view (1 : Nat) (List.length b) fun i => [AV.val (Value.string { data := List.toArray (List.getD b i []) })]] [] 0 [] [(4, sbL a b)] =
   some (AV.val (Value.bool true), [], 1,
   [((↑(List.length a) : Int) != (↑(List.length b) : Int)) = false,
   (AV.view (1 : Nat) (List.length a) fun i => [AV.val (Value.string { data := List.toArray (List.getD a i []) })]) = AV.view (1 : Nat) (List.length a) fun i => [AV.val (Value.string { data := List.toArray (List.getD a i []) })],
   (AV.view (1 : Nat) (List.length b) fun i => [AV.val (Value.string { data := List.toArray (List.getD b i []) })]) = AV.view (1 : Nat) (List.length b) fun i => [AV.val (Value.string { data := List.toArray (List.getD b i []) })],
   AV.val (Value.int IntKind.i64 (0 : Int)) = AV.val (Value.int IntKind.i64 (0 : Int)),
   EvXL Try.prog 0 (loopAt Try.prog 54 4) (GoalX.st (LoopX.G (sbL a b)) 0) (LoopX.ex (sbL a b)) (GoalX.st (LoopX.E (sbL a b)) 0)]) := by kernel_rfl

set_option maxRecDepth 100000 in
theorem sb_no (a : List (List UInt8)) (b : List (List UInt8)) : outXS kLower [(54, { br := [(11, false)] })] Try.prog 54 [AV.view (1 : Nat) (List.length a) fun i => [AV.val (Value.string { data := List.toArray (List.getD a i []) })], AV.view (1 : Nat) (List.length b) fun i => [AV.val (Value.string { data := List.toArray (List.getD b i []) })]] [] 0 [] [(4, sbR a b)] =
   some (AV.val (Value.bool false), [], 0,
   [((↑(List.length a) : Int) != (↑(List.length b) : Int)) = false,
   (AV.view (1 : Nat) (List.length a) fun i => [AV.val (Value.string { data := List.toArray (List.getD a i []) })]) = AV.view (1 : Nat) (List.length a) fun i => [AV.val (Value.string { data := List.toArray (List.getD a i []) })],
   (AV.view (1 : Nat) (List.length b) fun i => [AV.val (Value.string { data := List.toArray (List.getD b i []) })]) = AV.view (1 : Nat) (List.length b) fun i => [AV.val (Value.string { data := List.toArray (List.getD b i []) })],
   AV.val (Value.int IntKind.i64 (0 : Int)) = AV.val (Value.int IntKind.i64 (0 : Int)),
   EvXL Try.prog 0 (loopAt Try.prog 54 4) (GoalX.st (LoopX.G (sbR a b)) 0) (LoopX.ex (sbR a b)) (GoalX.st (LoopX.E (sbR a b)) 0)]) := by kernel_rfl

set_option maxRecDepth 100000 in
theorem sb_step (a : List (List UInt8)) (b : List (List UInt8)) (i : Nat) : stepXS kLower [(54, { br := [(15, true), (28, false)], ob := [(6, 2), (6, 7)] })] Try.prog 54 4 (sbG a b i) (sbG a b (i + (1 : Nat))) [] 0 [(9, siL a b i)] =
   some (.normal,
   [decide ((↑i : Int) < (↑(List.length a) : Int)) = true,
   (0 : Int) ≤ (↑i : Int) ∧ (↑i : Int) < (↑(List.length a) : Int),
   (0 : Int) ≤ (↑i : Int) ∧ (↑i : Int) < (↑(List.length b) : Int),
   ((↑(List.length (List.getD a i [])) : Int) != (↑(List.length (List.getD b i [])) : Int)) = false,
   (AV.view (1 : Nat) (List.length a) fun i => [AV.val (Value.string { data := List.toArray (List.getD a i []) })]) = AV.view (1 : Nat) (List.length a) fun i => [AV.val (Value.string { data := List.toArray (List.getD a i []) })],
   (AV.view (1 : Nat) (List.length b) fun i => [AV.val (Value.string { data := List.toArray (List.getD b i []) })]) = AV.view (1 : Nat) (List.length b) fun i => [AV.val (Value.string { data := List.toArray (List.getD b i []) })],
   AV.val (Value.int IntKind.i64 (↑i : Int)) = AV.val (Value.int IntKind.i64 (↑i : Int)),
   AV.val (Value.int IntKind.i64 (0 : Int)) = AV.val (Value.int IntKind.i64 (0 : Int)),
   EvXL Try.prog 0 (loopAt Try.prog 54 9) (GoalX.st (LoopX.G (siL a b i)) 0) (LoopX.ex (siL a b i)) (GoalX.st (LoopX.E (siL a b i)) 0),
   (AV.view (1 : Nat) (List.length a) fun i => [AV.val (Value.string { data := List.toArray (List.getD a i []) })]) = AV.view (1 : Nat) (List.length a) fun i => [AV.val (Value.string { data := List.toArray (List.getD a i []) })],
   (AV.view (1 : Nat) (List.length b) fun i => [AV.val (Value.string { data := List.toArray (List.getD b i []) })]) = AV.view (1 : Nat) (List.length b) fun i => [AV.val (Value.string { data := List.toArray (List.getD b i []) })],
   AV.val (Value.int IntKind.i64 (IntKind.wrap IntKind.i64 ((↑i : Int) + (1 : Int)))) = AV.val (Value.int IntKind.i64 (↑(i + (1 : Nat)) : Int))]) := by kernel_rfl

set_option maxRecDepth 100000 in
theorem sb_b (a : List (List UInt8)) (b : List (List UInt8)) (i : Nat) : stepXS kLower [(54, { br := [(15, true), (28, false)], ob := [(6, 2), (6, 7)] })] Try.prog 54 4 (sbG a b i) (sbN) [] 0 [(9, siR a b i)] =
   some (.ret,
   [decide ((↑i : Int) < (↑(List.length a) : Int)) = true,
   (0 : Int) ≤ (↑i : Int) ∧ (↑i : Int) < (↑(List.length a) : Int),
   (0 : Int) ≤ (↑i : Int) ∧ (↑i : Int) < (↑(List.length b) : Int),
   ((↑(List.length (List.getD a i [])) : Int) != (↑(List.length (List.getD b i [])) : Int)) = false,
   (AV.view (1 : Nat) (List.length a) fun i => [AV.val (Value.string { data := List.toArray (List.getD a i []) })]) = AV.view (1 : Nat) (List.length a) fun i => [AV.val (Value.string { data := List.toArray (List.getD a i []) })],
   (AV.view (1 : Nat) (List.length b) fun i => [AV.val (Value.string { data := List.toArray (List.getD b i []) })]) = AV.view (1 : Nat) (List.length b) fun i => [AV.val (Value.string { data := List.toArray (List.getD b i []) })],
   AV.val (Value.int IntKind.i64 (↑i : Int)) = AV.val (Value.int IntKind.i64 (↑i : Int)),
   AV.val (Value.int IntKind.i64 (0 : Int)) = AV.val (Value.int IntKind.i64 (0 : Int)),
   EvXL Try.prog 0 (loopAt Try.prog 54 9) (GoalX.st (LoopX.G (siR a b i)) 0) (LoopX.ex (siR a b i)) (GoalX.st (LoopX.E (siR a b i)) 0)]) := by kernel_rfl

set_option maxRecDepth 100000 in
theorem sb_bl (a : List (List UInt8)) (b : List (List UInt8)) (i : Nat) : stepXS kLower [(54, { br := [(15, true), (28, true)], ob := [(6, 2), (6, 7)] })] Try.prog 54 4 (sbG a b i) (sbN) [] 0 [] =
   some (.ret,
   [decide ((↑i : Int) < (↑(List.length a) : Int)) = true,
   (0 : Int) ≤ (↑i : Int) ∧ (↑i : Int) < (↑(List.length a) : Int),
   (0 : Int) ≤ (↑i : Int) ∧ (↑i : Int) < (↑(List.length b) : Int),
   ((↑(List.length (List.getD a i [])) : Int) != (↑(List.length (List.getD b i [])) : Int)) = true]) := by kernel_rfl

set_option maxRecDepth 100000 in
theorem sb_end (a : List (List UInt8)) (b : List (List UInt8)) (i : Nat) : stepXS kLower [(54, { br := [(15, false)] })] Try.prog 54 4 (sbG a b i) (sbE) [] 0 [] =
   some (.exit 0,
   [decide ((↑i : Int) < (↑(List.length a) : Int)) = false]) := by kernel_rfl

set_option maxRecDepth 100000 in
theorem si_step (a : List (List UInt8)) (b : List (List UInt8)) (i : Nat) (k : Nat) : stepXS kLower [(54, { br := [(35, true), (52, false)], ob := [(9, 3), (11, 2), (11, 5), (11, 9), (11, 12)] })] Try.prog 54 9 (sbH a b i k) (sbH a b i (k + (1 : Nat))) [] 0 [] =
   some (.normal,
   [(0 : Int) ≤ (↑i : Int) ∧ (↑i : Int) < (↑(List.length a) : Int),
   decide ((↑k : Int) < (↑(List.length (List.getD a i [])) : Int)) = true,
   (0 : Int) ≤ (↑i : Int) ∧ (↑i : Int) < (↑(List.length a) : Int),
   (0 : Int) ≤ (↑k : Int) ∧ k < List.length (List.getD a i []),
   (0 : Int) ≤ (↑(UInt8.toNat (List.getD (List.getD a i []) k (0 : UInt8))) : Int) ∧ (↑(UInt8.toNat (List.getD (List.getD a i []) k (0 : UInt8))) : Int) < (256 : Int),
   (0 : Int) ≤ (↑i : Int) ∧ (↑i : Int) < (↑(List.length b) : Int),
   (0 : Int) ≤ (↑k : Int) ∧ k < List.length (List.getD b i []),
   (0 : Int) ≤ (↑(UInt8.toNat (List.getD (List.getD b i []) k (0 : UInt8))) : Int) ∧ (↑(UInt8.toNat (List.getD (List.getD b i []) k (0 : UInt8))) : Int) < (256 : Int),
   (low (↑(UInt8.toNat (List.getD (List.getD a i []) k (0 : UInt8))) : Int) != low (↑(UInt8.toNat (List.getD (List.getD b i []) k (0 : UInt8))) : Int)) = false,
   (AV.view (1 : Nat) (List.length a) fun i => [AV.val (Value.string { data := List.toArray (List.getD a i []) })]) = AV.view (1 : Nat) (List.length a) fun i => [AV.val (Value.string { data := List.toArray (List.getD a i []) })],
   (AV.view (1 : Nat) (List.length b) fun i => [AV.val (Value.string { data := List.toArray (List.getD b i []) })]) = AV.view (1 : Nat) (List.length b) fun i => [AV.val (Value.string { data := List.toArray (List.getD b i []) })],
   AV.val (Value.int IntKind.i64 (↑i : Int)) = AV.val (Value.int IntKind.i64 (↑i : Int)),
   AV.val (Value.int IntKind.i64 (IntKind.wrap IntKind.i64 ((↑k : Int) + (1 : Int)))) = AV.val (Value.int IntKind.i64 (↑(k + (1 : Nat)) : Int))]) := by kernel_rfl

set_option maxRecDepth 100000 in
theorem si_b (a : List (List UInt8)) (b : List (List UInt8)) (i : Nat) (k : Nat) : stepXS kLower [(54, { br := [(35, true), (52, true)], ob := [(9, 3), (11, 2), (11, 5), (11, 9), (11, 12)] })] Try.prog 54 9 (sbH a b i k) (sbN) [] 0 [] =
   some (.ret,
   [(0 : Int) ≤ (↑i : Int) ∧ (↑i : Int) < (↑(List.length a) : Int),
   decide ((↑k : Int) < (↑(List.length (List.getD a i [])) : Int)) = true,
   (0 : Int) ≤ (↑i : Int) ∧ (↑i : Int) < (↑(List.length a) : Int),
   (0 : Int) ≤ (↑k : Int) ∧ k < List.length (List.getD a i []),
   (0 : Int) ≤ (↑(UInt8.toNat (List.getD (List.getD a i []) k (0 : UInt8))) : Int) ∧ (↑(UInt8.toNat (List.getD (List.getD a i []) k (0 : UInt8))) : Int) < (256 : Int),
   (0 : Int) ≤ (↑i : Int) ∧ (↑i : Int) < (↑(List.length b) : Int),
   (0 : Int) ≤ (↑k : Int) ∧ k < List.length (List.getD b i []),
   (0 : Int) ≤ (↑(UInt8.toNat (List.getD (List.getD b i []) k (0 : UInt8))) : Int) ∧ (↑(UInt8.toNat (List.getD (List.getD b i []) k (0 : UInt8))) : Int) < (256 : Int),
   (low (↑(UInt8.toNat (List.getD (List.getD a i []) k (0 : UInt8))) : Int) != low (↑(UInt8.toNat (List.getD (List.getD b i []) k (0 : UInt8))) : Int)) = true]) := by kernel_rfl

set_option maxRecDepth 100000 in
theorem si_end (a : List (List UInt8)) (b : List (List UInt8)) (i : Nat) (k : Nat) : stepXS kLower [(54, { br := [(35, false)], ob := [(9, 3)] })] Try.prog 54 9 (sbH a b i k) (sbG a b i) [] 0 [] =
   some (.exit 2,
   [(0 : Int) ≤ (↑i : Int) ∧ (↑i : Int) < (↑(List.length a) : Int),
   decide ((↑k : Int) < (↑(List.length (List.getD a i [])) : Int)) = false,
   (AV.view (1 : Nat) (List.length a) fun i => [AV.val (Value.string { data := List.toArray (List.getD a i []) })]) = AV.view (1 : Nat) (List.length a) fun i => [AV.val (Value.string { data := List.toArray (List.getD a i []) })],
   (AV.view (1 : Nat) (List.length b) fun i => [AV.val (Value.string { data := List.toArray (List.getD b i []) })]) = AV.view (1 : Nat) (List.length b) fun i => [AV.val (Value.string { data := List.toArray (List.getD b i []) })],
   AV.val (Value.int IntKind.i64 (↑i : Int)) = AV.val (Value.int IntKind.i64 (↑i : Int))]) := by kernel_rfl

set_option maxRecDepth 100000 in
theorem lower_lo (z : Int) : outXS noneKnown [(88, { op := [(1, 5, .br false)], gd := [(1, 3, false), (1, 4, false)] })] Try.prog 88 [AV.val (Value.int IntKind.u8 z)] [] 0 [] [] =
   some (AV.val (Value.int IntKind.u8 z), [], 9,
   [decide (z ≥ (65 : Int)) = false,
   decide (z ≥ (65 : Int)) = false,
   decide (z ≥ (65 : Int)) = false]) := by kernel_rfl

set_option maxRecDepth 100000 in
theorem lower_hi (z : Int) : outXS noneKnown [(88, { op := [(1, 5, .br true)], gd := [(1, 3, true), (1, 4, true)], br := [(8, false)] })] Try.prog 88 [AV.val (Value.int IntKind.u8 z)] [] 0 [] [] =
   some (AV.val (Value.int IntKind.u8 z), [], 9,
   [decide (z ≥ (65 : Int)) = true,
   decide (z ≥ (65 : Int)) = true,
   decide (z ≥ (65 : Int)) = true,
   decide (z ≤ (90 : Int)) = false]) := by kernel_rfl

set_option maxRecDepth 100000 in
theorem lower_up (z : Int) : outXS noneKnown [(88, { op := [(1, 5, .br true)], gd := [(1, 3, true), (1, 4, true)], br := [(8, true)] })] Try.prog 88 [AV.val (Value.int IntKind.u8 z)] [] 0 [] [] =
   some (AV.val (Value.int IntKind.u8 (IntKind.wrap IntKind.u8 (z + (32 : Int)))), [], 10,
   [decide (z ≥ (65 : Int)) = true,
   decide (z ≥ (65 : Int)) = true,
   decide (z ≥ (65 : Int)) = true,
   decide (z ≤ (90 : Int)) = true]) := by kernel_rfl
end Go.Proofs.Ytmilcpejchjleaa

/- Names that are alike: what the program's function and the document's yield; known wherever the lists lie. -/
namespace Go.Proofs.Ytmilcpejchjleaa
open Go.RowKit
set_option linter.unusedSimpArgs false

theorem lower_call (z : Int) (h : 0 ≤ z ∧ z < 256) (L : List (Nat × AObj)) (nx : Nat) : ACall Try.prog 88 [.val (.int .u8 z)] L nx (.val (.int .u8 (low z))) L nx := by
  have hx : ∀ r, renL r [AV.val (Value.int .u8 z)] = [AV.val (Value.int .u8 z)] := fun r => rfl
  by_cases h1 : z < 65
  · have e : low z = z := by unfold low; rw [if_neg (by omega)]
    rw [e]
    refine (outXS_ok noneKnown_ok (lower_lo z) ?_).lift hx L nx
    repeat' (first | exact allNil | refine allCons ?_ ?_)
    all_goals first | exact decide_eq_false (by omega) | exact decide_eq_true (by omega)
  · by_cases h2 : 90 < z
    · have e : low z = z := by unfold low; rw [if_neg (by omega)]
      rw [e]
      refine (outXS_ok noneKnown_ok (lower_hi z) ?_).lift hx L nx
      repeat' (first | exact allNil | refine allCons ?_ ?_)
      all_goals first | exact decide_eq_false (by omega) | exact decide_eq_true (by omega)
    · have e : low z = IntKind.wrap IntKind.u8 (z + (32 : Int)) := by
        unfold low; rw [if_pos (by omega), wu8]; omega
      rw [e]
      refine (outXS_ok noneKnown_ok (lower_up z) ?_).lift hx L nx
      repeat' (first | exact allNil | refine allCons ?_ ?_)
      all_goals first | exact decide_eq_false (by omega) | exact decide_eq_true (by omega)
theorem kLower_ok : InlOk Try.prog kLower := by
  intro g xs L nx v L' nx' q h hq
  unfold kLower at h
  split at h
  · rename_i hg
    subst hg
    split at h
    · simp only [Option.some.injEq, Prod.mk.injEq] at h
      obtain ⟨rfl, rfl, rfl, rfl⟩ := h
      exact ⟨lower_call _ (hq _ (List.mem_singleton.2 rfl)) L nx, Nat.le_refl _⟩
    · cases h
  · cases h

theorem sa_loop (a b : List (List UInt8)) (hk : lsK a) (hab : a.length = b.length) : ∀ (x y : List (List UInt8)) (i : Nat), a.drop i = x → b.drop i = y → i ≤ a.length →
    EvXL Try.prog 0 (loopAt Try.prog 86 4) ((saG a b i).st 0) (if sameN x y then .exit 0 else .ret) ((if sameN x y then saE else saN).st 0)
  | [], y, i, hx, hy, hil => by
    have hi : a.length ≤ i := by simpa using hx
    have e : y = [] := by rw [← hy, List.drop_of_length_le (by omega)]
    subst e
    exact EvXL.last (stepXS_ok kSameS_ok (sa_end a b i) (by
      repeat' (first | exact allNil | refine allCons ?_ ?_ | (with_reducible refine allRp _ ?_ ?_))
      all_goals first | (with_reducible rfl) | exact decide_eq_false (by omega))) (by simp [sameN])
  | s :: r, [], i, hx, hy, hil => by
    obtain ⟨hi, hg, hr⟩ := dropStep hx
    have : b.length ≤ i := by simpa using hy
    omega
  | s :: r, t :: q, i, hx, hy, hil => by
    obtain ⟨hi, hg, hr⟩ := dropStep hx
    obtain ⟨hi', hg', hr'⟩ := dropStep hy
    have hm := hk.1
    have hl := hk.2 i
    rw [hg] at hl
    have e1 : strB [AV.val (Value.string { data := List.toArray s })] = s := strB_s s
    have e2 : strB [AV.val (Value.string { data := List.toArray t })] = t := strB_s t
    cases h1 : alikeB s t with
    | true =>
      have e : sameN (s :: r) (t :: q) = sameN r q := by rw [sameN, h1, Bool.true_and]
      rw [e]
      refine EvXL.step (stepXS_ok kSameS_ok (sa_step a b i) ?_) (sa_loop a b hk hab r q (i + 1) hr hr' (by omega))
      rw [hg, hg', e1, e2]
      repeat' (first | exact allNil | refine allCons ?_ ?_ | (with_reducible refine allRp _ ?_ ?_))
      all_goals first | (with_reducible rfl) | exact decide_eq_true (by omega) | exact sI_succ i (by omega) | omega | (simp [h1]; done)
    | false =>
      have e : sameN (s :: r) (t :: q) = false := by rw [sameN, h1, Bool.false_and]
      rw [e]
      exact EvXL.last (stepXS_ok kSameS_ok (sa_b a b i) (by
        rw [hg, hg', e1, e2]
        repeat' (first | exact allNil | refine allCons ?_ ?_ | (with_reducible refine allRp _ ?_ ?_))
        all_goals first | (with_reducible rfl) | exact decide_eq_true (by omega) | omega | (simp [h1]; done))) (by simp)

theorem eqf_call (a b : List (List UInt8)) (hk : lsK a) : ACall Try.prog 86 [vS a, vS b, .fn (.func 87) []] [] 0 (.val (.bool (sameN a b))) [] 0 := by
  have hx : ∀ r, renL r [vS a, vS b, .fn (.func 87) []] = [vS a, vS b, .fn (.func 87) []] := fun r => rfl
  by_cases hab : a.length = b.length
  · have h := sa_loop a b hk hab a b 0 rfl rfl (by omega)
    cases hg : sameN a b with
    | true =>
      rw [hg] at h
      refine (outXS_ok kSameS_ok (sa_yes a b) ?_).lift hx [] 0
      repeat' (first | exact allNil | refine allCons ?_ ?_ | (with_reducible refine allRp _ ?_ ?_))
      all_goals first | (with_reducible rfl) | rfl | exact h | (simp [hab]; done)
    | false =>
      rw [hg] at h
      refine (outXS_ok kSameS_ok (sa_no a b) ?_).lift hx [] 0
      repeat' (first | exact allNil | refine allCons ?_ ?_ | (with_reducible refine allRp _ ?_ ?_))
      all_goals first | (with_reducible rfl) | rfl | exact h | (simp [hab]; done)
  · rw [sameN_len a b hab]
    refine (outXS_ok kSameS_ok (sa_len a b) ?_).lift hx [] 0
    refine allCons ?_ allNil
    simp
    omega

/-- EqualFunc with the program's own same, known at views -/
def kEqf : Inl := fun g xs L nx =>
  if g = 86 then
    match xs with
    | [x, y, .fn (.func f) []] =>
      if f = 87 then
        match strsOf (hp L) x, strsOf (hp L) y with
        | some (a, p), some (b, p') => if L.all (fun q => decide (q.1 < nx)) = true then some (.val (.bool (sameN a b)), L, nx, [p, p', lsK a]) else none
        | _, _ => none
      else none
    | _ => none
  else none
theorem kEqf_ok : InlOk Try.prog kEqf := by
  intro g xs L nx w L' nx' q h hq
  unfold kEqf at h
  split at h
  · rename_i hg
    subst hg
    split at h
    · rename_i x y f
      split at h
      · rename_i hf
        subst hf
        split at h
        · rename_i a p b p' hx hy
          split at h
          · rename_i hlt
            simp only [Option.some.injEq, Prod.mk.injEq] at h
            obtain ⟨rfl, rfl, rfl, rfl⟩ := h
            simp only [List.forall_mem_cons, List.not_mem_nil, false_implies, implies_true, and_true] at hq
            obtain ⟨q1, q2, q3⟩ := hq
            obtain ⟨x', hfx, hrx⟩ := strs_frs hx q1
            obtain ⟨y', hfy, hry⟩ := strs_frs hy q2
            have := (eqf_call a b q3).fresh' (L := L) (nx := nx) (by rfl) (by rfl) (FrsL.cons hfx (FrsL.cons hfy (FrsL.cons (.free fun r => rfl) FrsL.nil))) hlt
            refine ⟨?_, Nat.le_refl _⟩
            have h2 : ACall Try.prog 86 [x', y', .fn (.func 87) []] L nx (.val (.bool (sameN a b))) L nx := by simpa [AV.ren, renH] using this
            refine h2.args rfl fun E w k a a' u h1 h2 h3 => ?_
            match k with
            | 0 =>
              simp only [List.getElem?_cons_zero, Option.some.injEq] at h1 h2
              subst h1 h2
              exact hrx _ _ _ h3
            | 1 =>
              simp only [List.getElem?_cons_zero, List.getElem?_cons_succ, Option.some.injEq] at h1 h2
              subst h1 h2
              exact hry _ _ _ h3
            | 2 =>
              simp only [List.getElem?_cons_zero, List.getElem?_cons_succ, Option.some.injEq] at h1 h2
              subst h1 h2
              exact h3
            | k + 3 => simp at h1
          · cases h
        · cases h
      · cases h
    · cases h
  · cases h
end Go.Proofs.Ytmilcpejchjleaa

/- Names that are alike, the document's way: what is yielded. -/
namespace Go.Proofs.Ytmilcpejchjleaa
open Go.RowKit
set_option linter.unusedSimpArgs false

theorem alike_map (s t : List UInt8) : alikeB s t = decide (s.map lowB = t.map lowB) := by
  by_cases h : s.map lowB = t.map lowB
  · rw [decide_eq_true h]
    have hl : s.length = t.length := by simpa using congrArg List.length h
    unfold alikeB
    simp only [Bool.and_eq_true, beq_iff_eq, List.all_eq_true, List.mem_range]
    refine ⟨hl, fun i hi => ?_⟩
    have h1 := congrArg (fun l : List Int => l[i]?) h
    simp only [List.getElem?_map, List.getElem?_eq_getElem hi, List.getElem?_eq_getElem (hl ▸ hi), Option.map_some, Option.some.injEq] at h1
    simp only [List.getD_eq_getElem?_getD, List.getElem?_eq_getElem hi, List.getElem?_eq_getElem (hl ▸ hi), Option.getD_some]
    exact h1
  · rw [decide_eq_false h]
    cases ha : alikeB s t with
    | false => rfl
    | true =>
      exfalso
      apply h
      unfold alikeB at ha
      simp only [Bool.and_eq_true, beq_iff_eq, List.all_eq_true, List.mem_range] at ha
      obtain ⟨hl, ha⟩ := ha
      apply List.ext_getElem?
      intro i
      by_cases hi : i < s.length
      · have := ha i hi
        simp only [List.getD_eq_getElem?_getD, List.getElem?_eq_getElem hi, List.getElem?_eq_getElem (hl ▸ hi), Option.getD_some] at this
        simp only [List.getElem?_map, List.getElem?_eq_getElem hi, List.getElem?_eq_getElem (hl ▸ hi), Option.map_some, this]
      · rw [List.getElem?_eq_none (by simp; omega), List.getElem?_eq_none (by simp; omega)]

theorem dropStepB {s : List UInt8} {c : UInt8} {r : List UInt8} {k : Nat} (h : s.drop k = c :: r) : k < s.length ∧ s.getD k 0 = c ∧ s.drop (k + 1) = r := by
  have hk : k < s.length := by
    rcases Nat.lt_or_ge k s.length with h' | h'
    · exact h'
    · rw [List.drop_of_length_le h'] at h; cases h
  have hc := List.drop_eq_getElem_cons hk
  rw [h] at hc
  injection hc with h1 h2
  exact ⟨hk, by rw [List.getD_eq_getElem?_getD, List.getElem?_eq_getElem hk, h1]; rfl, h2.symm⟩

theorem si_loop (a b : List (List UInt8)) (i : Nat) (s t : List UInt8) (hi : i < a.length) (hi' : i < b.length) (hga : a.getD i [] = s) (hgb : b.getD i [] = t) (hm : s.length ≤ 1000000000) (hl : s.length = t.length) : ∀ (x y : List UInt8) (k : Nat), s.drop k = x → t.drop k = y → k ≤ s.length →
    EvXL Try.prog 0 (loopAt Try.prog 54 9) ((sbH a b i k).st 0) (if x.map lowB = y.map lowB then .exit 2 else .ret) ((if x.map lowB = y.map lowB then sbG a b i else sbN).st 0)
  | [], y, k, hx, hy, hk => by
    have h1 : s.length ≤ k := by simpa using hx
    have e : y = [] := by rw [← hy, List.drop_of_length_le (by omega)]
    subst e
    exact EvXL.last (stepXS_ok kLower_ok (si_end a b i k) (by
      rw [hga]
      repeat' (first | exact allNil | refine allCons ?_ ?_ | (with_reducible refine allRp _ ?_ ?_))
      all_goals first | (with_reducible rfl) | exact decide_eq_false (by omega) | omega)) (by simp)
  | c :: r, [], k, hx, hy, hk => by
    obtain ⟨h1, _, _⟩ := dropStepB hx
    have : t.length ≤ k := by simpa using hy
    omega
  | c :: r, d :: q, k, hx, hy, hk => by
    obtain ⟨h1, g1, r1⟩ := dropStepB hx
    obtain ⟨h2, g2, r2⟩ := dropStepB hy
    have b1 := byte_in c
    have b2 := byte_in d
    by_cases hcd : lowB c = lowB d
    · have e : ((c :: r).map lowB = (d :: q).map lowB) = (r.map lowB = q.map lowB) := by simp [hcd]
      simp only [e]
      refine EvXL.step (stepXS_ok kLower_ok (si_step a b i k) ?_) (si_loop a b i s t hi hi' hga hgb hm hl r q (k + 1) r1 r2 (by omega))
      rw [hga, hgb, g1, g2]
      have e2 : low ((c.toNat : Nat) : Int) = low ((d.toNat : Nat) : Int) := hcd
      repeat' (first | exact allNil | refine allCons ?_ ?_ | (with_reducible refine allRp _ ?_ ?_))
      all_goals first | (with_reducible rfl) | exact decide_eq_true (by omega) | exact sI_succ k (by omega) | exact b1 | exact b2 | omega | (simp [e2]; done)
    · have e : ¬ ((c :: r).map lowB = (d :: q).map lowB) := by simp [hcd]
      rw [if_neg e, if_neg e]
      have e2 : ¬ low ((c.toNat : Nat) : Int) = low ((d.toNat : Nat) : Int) := hcd
      exact EvXL.last (stepXS_ok kLower_ok (si_b a b i k) (by
        rw [hga, hgb, g1, g2]
        repeat' (first | exact allNil | refine allCons ?_ ?_ | (with_reducible refine allRp _ ?_ ?_))
        all_goals first | (with_reducible rfl) | exact decide_eq_true (by omega) | exact b1 | exact b2 | omega | (simp [e2]; done))) (by simp)

theorem sb_loop (a b : List (List UInt8)) (hk : lsK a) (hab : a.length = b.length) : ∀ (x y : List (List UInt8)) (i : Nat), a.drop i = x → b.drop i = y → i ≤ a.length →
    EvXL Try.prog 0 (loopAt Try.prog 54 4) ((sbG a b i).st 0) (if sameN x y then .exit 0 else .ret) ((if sameN x y then sbE else sbN).st 0)
  | [], y, i, hx, hy, hil => by
    have hi : a.length ≤ i := by simpa using hx
    have e : y = [] := by rw [← hy, List.drop_of_length_le (by omega)]
    subst e
    exact EvXL.last (stepXS_ok kLower_ok (sb_end a b i) (by
      repeat' (first | exact allNil | refine allCons ?_ ?_ | (with_reducible refine allRp _ ?_ ?_))
      all_goals first | (with_reducible rfl) | exact decide_eq_false (by omega))) (by simp [sameN])
  | s :: r, [], i, hx, hy, hil => by
    obtain ⟨hi, hg, hr⟩ := dropStep hx
    have : b.length ≤ i := by simpa using hy
    omega
  | s :: r, t :: q, i, hx, hy, hil => by
    obtain ⟨hi, hg, hr⟩ := dropStep hx
    obtain ⟨hi', hg', hr'⟩ := dropStep hy
    have hm := hk.1
    have hl := hk.2 i
    rw [hg] at hl
    by_cases hst : s.length = t.length
    · have hin := si_loop a b i s t hi hi' hg hg' (by omega) hst s t 0 rfl rfl (by omega)
      by_cases h1 : s.map lowB = t.map lowB
      · rw [if_pos h1, if_pos h1] at hin
        have e : sameN (s :: r) (t :: q) = sameN r q := by rw [sameN, alike_map, decide_eq_true h1, Bool.true_and]
        rw [e]
        refine EvXL.step (stepXS_ok kLower_ok (sb_step a b i) ?_) (sb_loop a b hk hab r q (i + 1) hr hr' (by omega))
        rw [hg, hg']
        repeat' (first | exact allNil | refine allCons ?_ ?_ | (with_reducible refine allRp _ ?_ ?_))
        all_goals first | (with_reducible rfl) | exact hin | exact decide_eq_true (by omega) | exact sI_succ i (by omega) | omega | (simp [hst]; done)
      · rw [if_neg h1, if_neg h1] at hin
        have e : sameN (s :: r) (t :: q) = false := by rw [sameN, alike_map, decide_eq_false h1, Bool.false_and]
        rw [e]
        exact EvXL.last (stepXS_ok kLower_ok (sb_b a b i) (by
          rw [hg, hg']
          repeat' (first | exact allNil | refine allCons ?_ ?_ | (with_reducible refine allRp _ ?_ ?_))
          all_goals first | (with_reducible rfl) | exact hin | exact decide_eq_true (by omega) | omega | (simp [hst]; done))) (by simp)
    · have h1 : ¬ s.map lowB = t.map lowB := fun h => hst (by simpa using congrArg List.length h)
      have e : sameN (s :: r) (t :: q) = false := by rw [sameN, alike_map, decide_eq_false h1, Bool.false_and]
      rw [e]
      exact EvXL.last (stepXS_ok kLower_ok (sb_bl a b i) (by
        rw [hg, hg']
        repeat' (first | exact allNil | refine allCons ?_ ?_ | (with_reducible refine allRp _ ?_ ?_))
        all_goals first | (with_reducible rfl) | exact decide_eq_true (by omega) | omega | (simp; omega))) (by simp)

theorem rsame_call (a b : List (List UInt8)) (hk : lsK a) : ACall Try.prog 54 [vS a, vS b] [] 0 (.val (.bool (sameN a b))) [] 0 := by
  have hx : ∀ r, renL r [vS a, vS b] = [vS a, vS b] := fun r => rfl
  by_cases hab : a.length = b.length
  · have h := sb_loop a b hk hab a b 0 rfl rfl (by omega)
    cases hg : sameN a b with
    | true =>
      rw [hg] at h
      refine (outXS_ok kLower_ok (sb_yes a b) ?_).lift hx [] 0
      repeat' (first | exact allNil | refine allCons ?_ ?_ | (with_reducible refine allRp _ ?_ ?_))
      all_goals first | (with_reducible rfl) | rfl | exact h | (simp [hab]; done)
    | false =>
      rw [hg] at h
      refine (outXS_ok kLower_ok (sb_no a b) ?_).lift hx [] 0
      repeat' (first | exact allNil | refine allCons ?_ ?_ | (with_reducible refine allRp _ ?_ ?_))
      all_goals first | (with_reducible rfl) | rfl | exact h | (simp [hab]; done)
  · rw [sameN_len a b hab]
    refine (outXS_ok kLower_ok (sb_len a b) ?_).lift hx [] 0
    refine allCons ?_ allNil
    simp
    omega
def kRSame : Inl := kPlain2 54 (fun a b => .bool (sameN a b)) (fun a _ => lsK a)
theorem kRSame_ok : InlOk Try.prog kRSame := kPlain2_ok fun a b h => rsame_call a b h
end Go.Proofs.Ytmilcpejchjleaa
