/- A function that is called more than once may have other hints at each of its calls: the table is asked for the call's first free number first. -/
import Derived.Test.YtecmagdefllihaaEz
namespace Go.Proofs.Ytecmagdefllihaa
open Go.RowKit

def hlOf (tab : List (Nat × HL)) (g nx : Nat) : HL :=
  match find1 tab (g + 1000000 * (nx + 1)) with
  | some h => h
  | none => (find1 tab g).getD {}

/-- the functions that are called are reckoned too, so deep, each with its hints; those that 'known' knows are not -/
def inlS (known : Inl) (tab : List (Nat × HL)) (P : Program) : Nat → Inl
  | 0 => known
  | n + 1 => fun g xs L nx =>
    match known g xs L nx with
    | some r => some r
    | none =>
      match runFn ((hlOf tab g nx).hs (inlS known tab P n)) P g xs L nx with
      | some (v, s, q) => if nx ≤ s.nx then some (v, keepL v L (heapF s.hp), s.nx, q) else none
      | none => none

theorem inlS_ok {P : Program} {known : Inl} (hk : InlOk P known) (tab : List (Nat × HL)) : ∀ n, InlOk P (inlS known tab P n)
  | 0 => hk
  | n + 1 => fun g xs L nx v L' nx' q h hq => by
    simp only [inlS] at h
    split at h
    · rename_i r h0
      injection h with h
      subst h
      exact hk _ _ _ _ _ _ _ _ h0 hq
    · split at h
      · rename_i v1 s q1 h1
        split at h
        · rename_i hle
          simp only [Option.some.injEq, Prod.mk.injEq] at h
          obtain ⟨rfl, rfl, rfl, rfl⟩ := h
          exact ⟨runFn_ok (inlS_ok hk tab n) h1 hq (pickO_sub _), hle⟩
        · cases h
      · cases h

/-- one function, reckoned with hints by function: its value, its objects, what is left to show -/
def outS (known : Inl) (tab : List (Nat × HL)) (P : Program) (g : FuncId) (xs : List AV) (L : List (Nat × AObj)) (nx : Nat) : Option (AV × List (Nat × AObj) × Nat × List Prop) :=
  match runFn ((hlOf tab g nx).hs (inlS known tab P 40)) P g xs L nx with
  | some (v, s, q) => if nx ≤ s.nx then some (v, keepL v L (heapF s.hp), s.nx, q) else none
  | none => none

theorem outS_ok {P : Program} {known : Inl} (hk : InlOk P known) {tab : List (Nat × HL)} {g : FuncId} {xs : List AV} {L L' : List (Nat × AObj)} {nx nx' : Nat} {v : AV} {q : List Prop} (h : outS known tab P g xs L nx = some (v, L', nx', q)) (hq : ∀ p ∈ q, p) :
    ACall P g xs L nx v L' nx' ∧ nx ≤ nx' := by
  unfold outS at h
  split at h
  · rename_i v1 s q1 h1
    split at h
    · rename_i hle
      simp only [Option.some.injEq, Prod.mk.injEq] at h
      obtain ⟨rfl, rfl, rfl, rfl⟩ := h
      exact ⟨runFn_ok (inlS_ok hk tab 40) h1 hq (pickO_sub _), hle⟩
    · cases h
  · cases h

end Go.Proofs.Ytecmagdefllihaa
