/- Two labels, alike or not: what the program's function yields, for every two. -/
import Derived.Test.YtmilcpejchjleaaNcRun
namespace Go.Proofs.Ytmilcpejchjleaa
open Go.RowKit

theorem low_of (x : UInt8) : low ((x.toNat : Nat) : Int) = lowB x := rfl
theorem byte_in (x : UInt8) : (0 : Int) ≤ ((x.toNat : Nat) : Int) ∧ ((x.toNat : Nat) : Int) < 256 := by
  have := x.toNat_lt
  omega
theorem lt_true {i n : Nat} (h : i < n) : decide ((i : Int) < (n : Int)) = true := by simpa using h
theorem lt_false {i n : Nat} (h : n ≤ i) : decide ((i : Int) < (n : Int)) = false := by simpa using h
theorem sI_succ (i : Nat) (h : i < 9223372036854775807) : AV.val (Value.int IntKind.i64 (IntKind.wrap IntKind.i64 ((i : Int) + (1 : Int)))) = AV.val (Value.int IntKind.i64 ((i + 1 : Nat) : Int)) := by
  rw [w64 _ (by omega)]; rfl

theorem same_loop_yes (a b : List UInt8) (hl : a.length = b.length) (hm : a.length ≤ 1000000000) (h : ∀ i, i < a.length → lowB (a.getD i 0) = lowB (b.getD i 0)) :
    ∀ n i, i + n = a.length → EvXL Try.prog 0 (loopAt Try.prog 87 4) (GoalX.st (alkG a b i) 0) (.exit 0) (GoalX.st alkE 0)
  | 0, i, hi => EvXL.last (stepXS_ok kN1_ok (same_end a b i) (allCons (lt_false (by omega)) allNil)) (by simp)
  | n + 1, i, hi => by
    refine EvXL.step (stepXS_ok kN1_ok (same_step a b i) ?_) (same_loop_yes a b hl hm h n (i + 1) (by omega))
    have e := h i (by omega)
    refine allCons (lt_true (by omega)) (allCons ⟨by omega, by omega⟩ (allCons (byte_in _) (allCons ⟨by omega, by omega⟩ (allCons (byte_in _) (allCons ?_ (allCons rfl (allCons rfl (allCons rfl (allCons (sI_succ i (by omega)) allNil)))))))))
    simp only [low_of, e]; simp

theorem same_loop_no (a b : List UInt8) (hl : a.length = b.length) (hm : a.length ≤ 1000000000) (k : Nat) (hk : k < a.length) (hd : lowB (a.getD k 0) ≠ lowB (b.getD k 0)) (h : ∀ i, i < k → lowB (a.getD i 0) = lowB (b.getD i 0)) :
    ∀ n i, i + n = k → EvXL Try.prog 0 (loopAt Try.prog 87 4) (GoalX.st (alkG a b i) 0) .ret (GoalX.st alkN 0)
  | 0, i, hi => by
    refine EvXL.last (stepXS_ok kN1_ok (same_diff a b i) ?_) (by simp)
    obtain rfl : i = k := by omega
    refine allCons (lt_true (by omega)) (allCons ⟨by omega, by omega⟩ (allCons (byte_in _) (allCons ⟨by omega, by omega⟩ (allCons (byte_in _) (allCons ?_ allNil)))))
    simp only [low_of]; simpa using hd
  | n + 1, i, hi => by
    refine EvXL.step (stepXS_ok kN1_ok (same_step a b i) ?_) (same_loop_no a b hl hm k hk hd h n (i + 1) (by omega))
    have e := h i (by omega)
    refine allCons (lt_true (by omega)) (allCons ⟨by omega, by omega⟩ (allCons (byte_in _) (allCons ⟨by omega, by omega⟩ (allCons (byte_in _) (allCons ?_ (allCons rfl (allCons rfl (allCons rfl (allCons (sI_succ i (by omega)) allNil)))))))))
    simp only [low_of, e]; simp

/-- the first place at which something is not so -/
theorem first_not {p : Nat → Prop} : ∀ n, (∀ i, i < n → p i) ∨ ∃ k, k < n ∧ ¬ p k ∧ ∀ i, i < k → p i
  | 0 => .inl fun i h => by omega
  | n + 1 => by
    rcases first_not (p := p) n with h | ⟨k, h1, h2, h3⟩
    · by_cases hn : p n
      · exact .inl fun i hi => by
          by_cases e : i = n
          · rw [e]; exact hn
          · exact h i (by omega)
      · exact .inr ⟨n, by omega, hn, h⟩
    · exact .inr ⟨k, by omega, h2, h3⟩

theorem same_call (a b : List UInt8) (hm : a.length ≤ 1000000000) (L : List (Nat × AObj)) (nx : Nat) : ACall Try.prog 87 [sStr a, sStr b] L nx (.val (.bool (alikeB a b))) L nx := by
  have hx : ∀ r, renL r [sStr a, sStr b] = [sStr a, sStr b] := fun r => rfl
  by_cases hl : a.length = b.length
  · have e0 : ((a.length : Int) != (b.length : Int)) = false := by simp [hl]
    rcases first_not (p := fun i => lowB (a.getD i 0) = lowB (b.getD i 0)) a.length with h | ⟨k, h1, h2, h3⟩
    · have e : alikeB a b = true := by
        unfold alikeB
        simp only [Bool.and_eq_true, beq_iff_eq, List.all_eq_true, List.mem_range]
        exact ⟨hl, h⟩
      rw [e]
      exact (outXS_ok kN1_ok (same_yes a b) (allCons e0 (allCons rfl (allCons rfl (allCons rfl (allCons rfl (allCons (same_loop_yes a b hl hm h a.length 0 (by omega)) allNil))))))).lift hx L nx
    · have e : alikeB a b = false := by
        rw [Bool.eq_false_iff]
        intro hh
        unfold alikeB at hh
        simp only [Bool.and_eq_true, beq_iff_eq, List.all_eq_true, List.mem_range] at hh
        exact h2 (hh.2 k h1)
      rw [e]
      exact (outXS_ok kN1_ok (same_no a b) (allCons e0 (allCons rfl (allCons rfl (allCons rfl (allCons rfl (allCons (same_loop_no a b hl hm k h1 h2 h3 k 0 (by omega)) allNil))))))).lift hx L nx
  · have e : alikeB a b = false := by
      unfold alikeB
      simp [hl]
    rw [e]
    exact (outXS_ok kN1_ok (same_len a b) (allCons (by simp; omega) allNil)).lift hx L nx

def kSame : Inl := fun g xs L nx =>
  if g = 87 then
    match xs with
    | [.val (.string a), .val (.string b)] => some (.val (.bool (alikeB a.data.toList b.data.toList)), L, nx, [a.data.toList.length ≤ 1000000000])
    | _ => none
  else none
theorem kSame_ok : InlOk Try.prog kSame := by
  intro g xs L nx v L' nx' q h hq
  unfold kSame at h
  split at h
  · rename_i hg
    subst hg
    split at h
    · rename_i a b
      simp only [Option.some.injEq, Prod.mk.injEq] at h
      obtain ⟨rfl, rfl, rfl, rfl⟩ := h
      have ha : ∀ s : ByteArray, (AV.val (Value.string s)) = sStr s.data.toList := fun s => by
        show _ = AV.val (Value.string ⟨s.data.toList.toArray⟩)
        rw [Array.toArray_toList]
      rw [ha a, ha b]
      exact ⟨same_call _ _ (hq _ (List.mem_singleton.2 rfl)) L nx, Nat.le_refl _⟩
    · cases h
  · cases h
def kN2 : Inl := orInl kSame kN1
theorem kN2_ok : InlOk Try.prog kN2 := orInl_ok kSame_ok kN1_ok
end Go.Proofs.Ytmilcpejchjleaa
