/- Several texts in one: Na, NaRun, Nb, NcRun, Nd. -/
import Derived.Test.YtmilcpejchjleaaLift
import Derived.Test.YtmilcpejchjleaaWn
import Derived.Test.YtmilcpejchjleaaRp

/- Small letters, and labels that are alike: plain words. -/
namespace Go.Proofs.Ytmilcpejchjleaa
open Go.RowKit

/-- a letter's small one -/
def low (z : Int) : Int := if 65 ≤ z ∧ z ≤ 90 then z + 32 else z
def lowB (x : UInt8) : Int := low (x.toNat : Int)
def sStr (a : List UInt8) : AV := .val (.string ⟨a.toArray⟩)
def sI (n : Nat) : AV := .val (.int .i64 (n : Int))
/-- alike, sign by sign -/
def alikeB (a b : List UInt8) : Bool := a.length == b.length && (List.range a.length).all fun i => lowB (a.getD i 0) == lowB (b.getD i 0)

def alkG (a b : List UInt8) (i : Nat) : GoalX := { len := 26, opn := [(0, sStr a), (1, sStr b), (12, sI a.length), (13, sI i)] }
def alkE : GoalX := { len := 26 }
def alkN : GoalX := { len := 26, tms := [(4, .val (.bool false))] }
def alkL (a b : List UInt8) : LoopX := { ids := [], G := alkG a b 0, ex := .exit 0, E := alkE }
def alkR (a b : List UInt8) : LoopX := { ids := [], G := alkG a b 0, ex := .ret, E := alkN }
end Go.Proofs.Ytmilcpejchjleaa

/- Small letters, reckoned. (Printed by wip/tools/gen.py from wip/sym/XSNa.lean.) -/
namespace Go.Proofs.Ytmilcpejchjleaa
open Go.RowKit

set_option maxRecDepth 100000 in
theorem small_lo (z : Int) : outT kN [(122, { op := [(1, 5, .br false)], gd := [(1, 3, false), (1, 4, false)] })] Try.prog 122 [AV.val (Value.int IntKind.u8 z)] [] 0 =
   some (AV.val (Value.int IntKind.u8 z), [], 9,
   rp 3 (decide (z ≥ (65 : Int)) = false) ( [])) := by kernel_rfl

set_option maxRecDepth 100000 in
theorem small_hi (z : Int) : outT kN [(122, { op := [(1, 5, .br true)], gd := [(1, 3, true), (1, 4, true)], br := [(8, false)] })] Try.prog 122 [AV.val (Value.int IntKind.u8 z)] [] 0 =
   some (AV.val (Value.int IntKind.u8 z), [], 9,
   rp 3 (decide (z ≥ (65 : Int)) = true) (
   (decide (z ≤ (90 : Int)) = false) :: [])) := by kernel_rfl

set_option maxRecDepth 100000 in
theorem small_up (z : Int) : outT kN [(122, { op := [(1, 5, .br true)], gd := [(1, 3, true), (1, 4, true)], br := [(8, true)] })] Try.prog 122 [AV.val (Value.int IntKind.u8 z)] [] 0 =
   some (AV.val (Value.int IntKind.u8 (IntKind.wrap IntKind.u8 (IntKind.wrap IntKind.u8 (z - (65 : Int)) + (97 : Int)))), [], 11,
   rp 3 (decide (z ≥ (65 : Int)) = true) (
   (decide (z ≤ (90 : Int)) = true) :: [])) := by kernel_rfl
end Go.Proofs.Ytmilcpejchjleaa

/- The small letter of a sign: what the program's function yields. -/
namespace Go.Proofs.Ytmilcpejchjleaa
open Go.RowKit

theorem small_call (z : Int) (h : 0 ≤ z ∧ z < 256) (L : List (Nat × AObj)) (nx : Nat) : ACall Try.prog 122 [.val (.int .u8 z)] L nx (.val (.int .u8 (low z))) L nx := by
  have hx : ∀ r, renL r [AV.val (Value.int .u8 z)] = [AV.val (Value.int .u8 z)] := fun r => rfl
  by_cases h1 : z < 65
  · have e : low z = z := by unfold low; rw [if_neg (by omega)]
    rw [e]
    exact (outT_ok kN_ok (small_lo z) (allRp _ (by simp; omega) allNil)).1.lift hx L nx
  · by_cases h2 : 90 < z
    · have e : low z = z := by unfold low; rw [if_neg (by omega)]
      rw [e]
      exact (outT_ok kN_ok (small_hi z) (allRp _ (by simp; omega) (allCons (by simp; omega) allNil))).1.lift hx L nx
    · have e : low z = IntKind.wrap IntKind.u8 (IntKind.wrap IntKind.u8 (z - (65 : Int)) + (97 : Int)) := by
        unfold low; rw [if_pos (by omega), wu8, wu8]; omega
      rw [e]
      exact (outT_ok kN_ok (small_up z) (allRp _ (by simp; omega) (allCons (by simp; omega) allNil))).1.lift hx L nx

def kSmall : Inl := fun g xs L nx =>
  if g = 122 then
    match xs with
    | [.val (.int .u8 z)] => some (.val (.int .u8 (low z)), L, nx, [0 ≤ z ∧ z < 256])
    | _ => none
  else none
theorem kSmall_ok : InlOk Try.prog kSmall := by
  intro g xs L nx v L' nx' q h hq
  unfold kSmall at h
  split at h
  · rename_i hg
    subst hg
    split at h
    · simp only [Option.some.injEq, Prod.mk.injEq] at h
      obtain ⟨rfl, rfl, rfl, rfl⟩ := h
      exact ⟨small_call _ (hq _ (List.mem_singleton.2 rfl)) L nx, Nat.le_refl _⟩
    · cases h
  · cases h
def kN1 : Inl := orInl kSmall kN
theorem kN1_ok : InlOk Try.prog kN1 := orInl_ok kSmall_ok kN_ok
end Go.Proofs.Ytmilcpejchjleaa

/- Labels that are alike, reckoned. (Printed by wip/tools/gen.py from wip/sym/XSNc.lean.) -/
namespace Go.Proofs.Ytmilcpejchjleaa
open Go.RowKit

set_option maxRecDepth 100000 in
theorem same_len (a : List UInt8) (b : List UInt8) : outXS kN1 [(87, { br := [(10, true)] })] Try.prog 87 [AV.val (Value.string { data := List.toArray a }), AV.val (Value.string { data := List.toArray b })] [] 0 [] [] =
   some (AV.val (Value.bool false), [], 7,
   (((↑(List.length a) : Int) != (↑(List.length b) : Int)) = true) :: []) := by kernel_rfl

set_option maxRecDepth 100000 in
theorem same_yes (a : List UInt8) (b : List UInt8) : outXS kN1 [(87, { br := [(10, false)] })] Try.prog 87 [AV.val (Value.string { data := List.toArray a }), AV.val (Value.string { data := List.toArray b })] [] 0 [] [(4, alkL a b)] =
   some (AV.val (Value.bool true), [], 1,
   (((↑(List.length a) : Int) != (↑(List.length b) : Int)) = false) ::
   (AV.val (Value.string { data := List.toArray a }) = AV.val (Value.string { data := List.toArray a })) ::
   (AV.val (Value.string { data := List.toArray b }) = AV.val (Value.string { data := List.toArray b })) ::
   (AV.val (Value.int IntKind.i64 (↑(List.length a) : Int)) = AV.val (Value.int IntKind.i64 (↑(List.length a) : Int))) ::
   (AV.val (Value.int IntKind.i64 (0 : Int)) = AV.val (Value.int IntKind.i64 (0 : Int))) ::
   (EvXL Try.prog 0 (loopAt Try.prog 87 4) (GoalX.st (LoopX.G (alkL a b)) 0) (LoopX.ex (alkL a b)) (GoalX.st (LoopX.E (alkL a b)) 0)) :: []) := by kernel_rfl

set_option maxRecDepth 100000 in
theorem same_no (a : List UInt8) (b : List UInt8) : outXS kN1 [(87, { br := [(10, false)] })] Try.prog 87 [AV.val (Value.string { data := List.toArray a }), AV.val (Value.string { data := List.toArray b })] [] 0 [] [(4, alkR a b)] =
   some (AV.val (Value.bool false), [], 0,
   (((↑(List.length a) : Int) != (↑(List.length b) : Int)) = false) ::
   (AV.val (Value.string { data := List.toArray a }) = AV.val (Value.string { data := List.toArray a })) ::
   (AV.val (Value.string { data := List.toArray b }) = AV.val (Value.string { data := List.toArray b })) ::
   (AV.val (Value.int IntKind.i64 (↑(List.length a) : Int)) = AV.val (Value.int IntKind.i64 (↑(List.length a) : Int))) ::
   (AV.val (Value.int IntKind.i64 (0 : Int)) = AV.val (Value.int IntKind.i64 (0 : Int))) ::
   (EvXL Try.prog 0 (loopAt Try.prog 87 4) (GoalX.st (LoopX.G (alkR a b)) 0) (LoopX.ex (alkR a b)) (GoalX.st (LoopX.E (alkR a b)) 0)) :: []) := by kernel_rfl

set_option maxRecDepth 100000 in
theorem same_step (a : List UInt8) (b : List UInt8) (i : Nat) : stepXS kN1 [(87, { br := [(14, true), (24, false)], ob := [(6, 2), (6, 6)] })] Try.prog 87 4 (alkG a b i) (alkG a b (i + 1)) [] 0 [] =
   some (.normal,
   (decide ((↑i : Int) < (↑(List.length a) : Int)) = true) ::
   ((0 : Int) ≤ (↑i : Int) ∧ i < List.length a) ::
   ((0 : Int) ≤ (↑(UInt8.toNat (List.getD a i (0 : UInt8))) : Int) ∧ (↑(UInt8.toNat (List.getD a i (0 : UInt8))) : Int) < (256 : Int)) ::
   ((0 : Int) ≤ (↑i : Int) ∧ i < List.length b) ::
   ((0 : Int) ≤ (↑(UInt8.toNat (List.getD b i (0 : UInt8))) : Int) ∧ (↑(UInt8.toNat (List.getD b i (0 : UInt8))) : Int) < (256 : Int)) ::
   ((low (↑(UInt8.toNat (List.getD a i (0 : UInt8))) : Int) != low (↑(UInt8.toNat (List.getD b i (0 : UInt8))) : Int)) = false) ::
   (AV.val (Value.string { data := List.toArray a }) = AV.val (Value.string { data := List.toArray a })) ::
   (AV.val (Value.string { data := List.toArray b }) = AV.val (Value.string { data := List.toArray b })) ::
   (AV.val (Value.int IntKind.i64 (↑(List.length a) : Int)) = AV.val (Value.int IntKind.i64 (↑(List.length a) : Int))) ::
   (AV.val (Value.int IntKind.i64 (IntKind.wrap IntKind.i64 ((↑i : Int) + (1 : Int)))) = AV.val (Value.int IntKind.i64 (↑(i + 1) : Int))) :: []) := by kernel_rfl

set_option maxRecDepth 100000 in
theorem same_diff (a : List UInt8) (b : List UInt8) (i : Nat) : stepXS kN1 [(87, { br := [(14, true), (24, true)], ob := [(6, 2), (6, 6)] })] Try.prog 87 4 (alkG a b i) (alkN) [] 0 [] =
   some (.ret,
   (decide ((↑i : Int) < (↑(List.length a) : Int)) = true) ::
   ((0 : Int) ≤ (↑i : Int) ∧ i < List.length a) ::
   ((0 : Int) ≤ (↑(UInt8.toNat (List.getD a i (0 : UInt8))) : Int) ∧ (↑(UInt8.toNat (List.getD a i (0 : UInt8))) : Int) < (256 : Int)) ::
   ((0 : Int) ≤ (↑i : Int) ∧ i < List.length b) ::
   ((0 : Int) ≤ (↑(UInt8.toNat (List.getD b i (0 : UInt8))) : Int) ∧ (↑(UInt8.toNat (List.getD b i (0 : UInt8))) : Int) < (256 : Int)) ::
   ((low (↑(UInt8.toNat (List.getD a i (0 : UInt8))) : Int) != low (↑(UInt8.toNat (List.getD b i (0 : UInt8))) : Int)) = true) :: []) := by kernel_rfl

set_option maxRecDepth 100000 in
theorem same_end (a : List UInt8) (b : List UInt8) (i : Nat) : stepXS kN1 [(87, { br := [(14, false)] })] Try.prog 87 4 (alkG a b i) (alkE) [] 0 [] =
   some (.exit 0,
   (decide ((↑i : Int) < (↑(List.length a) : Int)) = false) :: []) := by kernel_rfl
end Go.Proofs.Ytmilcpejchjleaa

/- Two labels, alike or not: what the program's function yields, for every two. -/
namespace Go.Proofs.Ytmilcpejchjleaa
open Go.RowKit

theorem low_of (x : UInt8) : low ((x.toNat : Nat) : Int) = lowB x := rfl
theorem byte_in (x : UInt8) : (0 : Int) ≤ ((x.toNat : Nat) : Int) ∧ ((x.toNat : Nat) : Int) < 256 := by
  have := x.toNat_lt
  omega
theorem lt_true {i n : Nat} (h : i < n) : decide ((i : Int) < (n : Int)) = true := by simpa using h
theorem lt_false {i n : Nat} (h : n ≤ i) : decide ((i : Int) < (n : Int)) = false := by simpa using h
theorem sI_succ (i : Nat) (h : i < 9223372036854775807) : AV.val (Value.int IntKind.i64 (IntKind.wrap IntKind.i64 ((i : Int) + (1 : Int)))) = AV.val (Value.int IntKind.i64 ((i + 1 : Nat) : Int)) := by
  rw [w64 _ (by omega)]; rfl

theorem same_loop_yes (a b : List UInt8) (hl : a.length = b.length) (hm : a.length ≤ 1000000000) (h : ∀ i, i < a.length → lowB (a.getD i 0) = lowB (b.getD i 0)) :
    ∀ n i, i + n = a.length → EvXL Try.prog 0 (loopAt Try.prog 87 4) (GoalX.st (alkG a b i) 0) (.exit 0) (GoalX.st alkE 0)
  | 0, i, hi => EvXL.last (stepXS_ok kN1_ok (same_end a b i) (allCons (lt_false (by omega)) allNil)) (by simp)
  | n + 1, i, hi => by
    refine EvXL.step (stepXS_ok kN1_ok (same_step a b i) ?_) (same_loop_yes a b hl hm h n (i + 1) (by omega))
    have e := h i (by omega)
    refine allCons (lt_true (by omega)) (allCons ⟨by omega, by omega⟩ (allCons (byte_in _) (allCons ⟨by omega, by omega⟩ (allCons (byte_in _) (allCons ?_ (allCons rfl (allCons rfl (allCons rfl (allCons (sI_succ i (by omega)) allNil)))))))))
    simp only [low_of, e]; simp

theorem same_loop_no (a b : List UInt8) (hl : a.length = b.length) (hm : a.length ≤ 1000000000) (k : Nat) (hk : k < a.length) (hd : lowB (a.getD k 0) ≠ lowB (b.getD k 0)) (h : ∀ i, i < k → lowB (a.getD i 0) = lowB (b.getD i 0)) :
    ∀ n i, i + n = k → EvXL Try.prog 0 (loopAt Try.prog 87 4) (GoalX.st (alkG a b i) 0) .ret (GoalX.st alkN 0)
  | 0, i, hi => by
    refine EvXL.last (stepXS_ok kN1_ok (same_diff a b i) ?_) (by simp)
    obtain rfl : i = k := by omega
    refine allCons (lt_true (by omega)) (allCons ⟨by omega, by omega⟩ (allCons (byte_in _) (allCons ⟨by omega, by omega⟩ (allCons (byte_in _) (allCons ?_ allNil)))))
    simp only [low_of]; simpa using hd
  | n + 1, i, hi => by
    refine EvXL.step (stepXS_ok kN1_ok (same_step a b i) ?_) (same_loop_no a b hl hm k hk hd h n (i + 1) (by omega))
    have e := h i (by omega)
    refine allCons (lt_true (by omega)) (allCons ⟨by omega, by omega⟩ (allCons (byte_in _) (allCons ⟨by omega, by omega⟩ (allCons (byte_in _) (allCons ?_ (allCons rfl (allCons rfl (allCons rfl (allCons (sI_succ i (by omega)) allNil)))))))))
    simp only [low_of, e]; simp

/-- the first place at which something is not so -/
theorem first_not {p : Nat → Prop} : ∀ n, (∀ i, i < n → p i) ∨ ∃ k, k < n ∧ ¬ p k ∧ ∀ i, i < k → p i
  | 0 => .inl fun i h => by omega
  | n + 1 => by
    rcases first_not (p := p) n with h | ⟨k, h1, h2, h3⟩
    · by_cases hn : p n
      · exact .inl fun i hi => by
          by_cases e : i = n
          · rw [e]; exact hn
          · exact h i (by omega)
      · exact .inr ⟨n, by omega, hn, h⟩
    · exact .inr ⟨k, by omega, h2, h3⟩

theorem same_call (a b : List UInt8) (hm : a.length ≤ 1000000000) (L : List (Nat × AObj)) (nx : Nat) : ACall Try.prog 87 [sStr a, sStr b] L nx (.val (.bool (alikeB a b))) L nx := by
  have hx : ∀ r, renL r [sStr a, sStr b] = [sStr a, sStr b] := fun r => rfl
  by_cases hl : a.length = b.length
  · have e0 : ((a.length : Int) != (b.length : Int)) = false := by simp [hl]
    rcases first_not (p := fun i => lowB (a.getD i 0) = lowB (b.getD i 0)) a.length with h | ⟨k, h1, h2, h3⟩
    · have e : alikeB a b = true := by
        unfold alikeB
        simp only [Bool.and_eq_true, beq_iff_eq, List.all_eq_true, List.mem_range]
        exact ⟨hl, h⟩
      rw [e]
      exact (outXS_ok kN1_ok (same_yes a b) (allCons e0 (allCons rfl (allCons rfl (allCons rfl (allCons rfl (allCons (same_loop_yes a b hl hm h a.length 0 (by omega)) allNil))))))).lift hx L nx
    · have e : alikeB a b = false := by
        rw [Bool.eq_false_iff]
        intro hh
        unfold alikeB at hh
        simp only [Bool.and_eq_true, beq_iff_eq, List.all_eq_true, List.mem_range] at hh
        exact h2 (hh.2 k h1)
      rw [e]
      exact (outXS_ok kN1_ok (same_no a b) (allCons e0 (allCons rfl (allCons rfl (allCons rfl (allCons rfl (allCons (same_loop_no a b hl hm k h1 h2 h3 k 0 (by omega)) allNil))))))).lift hx L nx
  · have e : alikeB a b = false := by
      unfold alikeB
      simp [hl]
    rw [e]
    exact (outXS_ok kN1_ok (same_len a b) (allCons (by simp; omega) allNil)).lift hx L nx

def kSame : Inl := fun g xs L nx =>
  if g = 87 then
    match xs with
    | [.val (.string a), .val (.string b)] => some (.val (.bool (alikeB a.data.toList b.data.toList)), L, nx, [a.data.toList.length ≤ 1000000000])
    | _ => none
  else none
theorem kSame_ok : InlOk Try.prog kSame := by
  intro g xs L nx v L' nx' q h hq
  unfold kSame at h
  split at h
  · rename_i hg
    subst hg
    split at h
    · rename_i a b
      simp only [Option.some.injEq, Prod.mk.injEq] at h
      obtain ⟨rfl, rfl, rfl, rfl⟩ := h
      have ha : ∀ s : ByteArray, (AV.val (Value.string s)) = sStr s.data.toList := fun s => by
        show _ = AV.val (Value.string ⟨s.data.toList.toArray⟩)
        rw [Array.toArray_toList]
      rw [ha a, ha b]
      exact ⟨same_call _ _ (hq _ (List.mem_singleton.2 rfl)) L nx, Nat.le_refl _⟩
    · cases h
  · cases h
def kN2 : Inl := orInl kSame kN1
theorem kN2_ok : InlOk Try.prog kN2 := orInl_ok kSame_ok kN1_ok
end Go.Proofs.Ytmilcpejchjleaa
