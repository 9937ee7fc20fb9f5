/- An engine for walks: hints by function. -/
import Derived.Test.YtoekncmggjhmjaaEt
namespace Go.Proofs.Ytoekncmggjhmjaa
open Go.RowKit

theorem find1_mem {α : Type} : ∀ {l : List (Nat × α)} {r : Nat} {x : α}, find1 l r = some x → (r, x) ∈ l
  | [], _, _, h => by cases h
  | (a, y) :: l, r, x, h => by
    simp only [find1] at h
    split at h
    · rename_i e
      injection h with h
      subst e h
      exact List.mem_cons_self
    · exact List.mem_cons_of_mem _ (find1_mem h)

/-- these functions are reckoned with hints of their own -/
def inlAt (tab : List (Nat × Hints)) (P : Program) : Inl := fun g xs L nx =>
  match find1 tab g with
  | some hs =>
    match runFn hs P g xs L nx with
    | some (v, s, q) => if nx ≤ s.nx then some (v, keepL v L (heapF s.hp), s.nx, q) else none
    | none => none
  | none => none

theorem inlAt_ok {tab : List (Nat × Hints)} {P : Program} (h : ∀ e ∈ tab, InlOk P e.2.inl) : InlOk P (inlAt tab P) := by
  intro g xs L nx v L' nx' q h0 hq
  unfold inlAt at h0
  split at h0
  · rename_i hs hf
    split at h0
    · rename_i v1 s q1 h1
      split at h0
      · rename_i hle
        simp only [Option.some.injEq, Prod.mk.injEq] at h0
        obtain ⟨rfl, rfl, rfl, rfl⟩ := h0
        exact ⟨runFn_ok (h _ (find1_mem hf)) h1 hq (pickO_sub _), hle⟩
      · cases h0
    · cases h0
  · cases h0

def symH2 (P : Program) (op : List (Nat × Nat × Hn)) (gd : List (Nat × Nat × Bool)) (br : List (Nat × Bool)) (fam : List (Nat × LoopFam)) (tab : List (Nat × Hints)) : Hints :=
  { op := find2 op, gd := find2 gd, br := find1 br, fam := find1 fam, fuel := 10000, cl := true, inl := inlK (inlAt tab P) { cl := true, fuel := 10000 } P 30 }

theorem symH2_ok (P : Program) (op : List (Nat × Nat × Hn)) (gd : List (Nat × Nat × Bool)) (br : List (Nat × Bool)) (fam : List (Nat × LoopFam)) (tab : List (Nat × Hints)) (h : ∀ e ∈ tab, InlOk P e.2.inl) : InlOk P (symH2 P op gd br fam tab).inl :=
  inlK_ok (inlAt_ok h) _ _
end Go.Proofs.Ytoekncmggjhmjaa
