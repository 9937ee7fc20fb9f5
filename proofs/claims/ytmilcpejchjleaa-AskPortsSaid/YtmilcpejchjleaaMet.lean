/- Several texts in one: Et, Eu. -/
import Derived.Test.YtmilcpejchjleaaMes

/- An engine for walks: a function of plain values that comes to true. -/
namespace Go.Proofs.Ytmilcpejchjleaa
open Go.RowKit

/-- what a function of plain values comes to, and what is left to show -/
def outQ (hs : Hints) (P : Program) (g : FuncId) (vals : List Value) : Option (AV × List Prop) :=
  match runFn hs P g (vals.map .val) [] 0 with
  | some (v, _, q) => some (v, q)
  | none => none

theorem run_true {P : Program} {hs : Hints} (hinl : InlOk P hs.inl) {g : FuncId} {vals : List Value} {q : List Prop} (h : outQ hs P g vals = some (.val (.bool true), q)) (hq : ∀ p ∈ q, p) (w : World) :
    Calls P g vals.toArray w fun e w' => e = .returned (.bool true) ∧ Below w.heap.size w w' := by
  unfold outQ at h
  split at h
  · rename_i v s q' hr
    simp only [Option.some.injEq, Prod.mk.injEq] at h
    obtain ⟨rfl, rfl⟩ := h
    have hc : ACall P g (vals.map .val) [] 0 (.val (.bool true)) [] s.nx := runFn_ok hinl hr hq (fun id x h => by simp [hp] at h)
    refine Calls.mono (hc ⟨fun _ => none, fun _ => False⟩ w vals.toArray ⟨fun _ _ h => by simp [hp] at h, fun _ _ _ _ _ _ _ _ _ h => by simp [hp] at h, fun _ _ => rfl, fun _ h => h.elim⟩ ⟨by simp, fun k a v h h2 => by
      simp only [List.getElem?_map, Option.map_eq_some_iff] at h
      obtain ⟨u, hu, rfl⟩ := h
      simp only [List.getElem?_toArray] at h2
      rw [hu] at h2
      injection h2 with h2
      subst h2
      exact .val _⟩) fun e w' hh => ?_
    obtain ⟨E', u, rfl, _, t2, t3⟩ := hh
    rw [t2.val_inv]
    exact ⟨rfl, t3.os, t3.tape, t3.output, t3.size, fun b hb => t3.fr b hb fun ⟨id, x, c, z, h1, _⟩ => by simp [hp] at h1⟩
  · cases h

def find2 {α : Type} : List (Nat × Nat × α) → Nat → Nat → Option α
  | [], _, _ => none
  | (a, b, x) :: l, r, i => if a = r ∧ b = i then some x else find2 l r i
def find1 {α : Type} : List (Nat × α) → Nat → Option α
  | [], _ => none
  | (a, x) :: l, r => if a = r then some x else find1 l r

/-- hints for the outermost function alone; those that it calls are reckoned without -/
def symH (P : Program) (op : List (Nat × Nat × Hn)) (gd : List (Nat × Nat × Bool)) (br : List (Nat × Bool)) (fam : List (Nat × LoopFam)) : Hints :=
  { op := find2 op, gd := find2 gd, br := find1 br, fam := find1 fam, fuel := 10000, cl := true, inl := inlK noneKnown { cl := true, fuel := 10000 } P 30 }

theorem symH_ok (P : Program) (op : List (Nat × Nat × Hn)) (gd : List (Nat × Nat × Bool)) (br : List (Nat × Bool)) (fam : List (Nat × LoopFam)) : InlOk P (symH P op gd br fam).inl := inlK_ok noneKnown_ok _ _

/-- rounds up to a bound that is not known -/
def upTo (a : Int) : Nat → Nat → List (List Prop × List Prop)
  | 0, i => [([False], [decide ((i : Int) < a) = false])]
  | n + 1, i => ([decide ((i : Int) < a) = true], [decide ((i : Int) < a) = false]) :: upTo a n (i + 1)

theorem famP_upTo (a : Int) : ∀ (n i : Nat), (i : Int) ≤ a → a ≤ i + n → famP (upTo a n i)
  | 0, i, h1, h2 => by
    refine .inl fun p hp => ?_
    rw [List.mem_singleton.1 hp]
    simp; omega
  | n + 1, i, h1, h2 => by
    by_cases e : (i : Int) < a
    · refine .inr ⟨fun p hp => ?_, famP_upTo a n (i + 1) (by omega) (by push_cast; omega)⟩
      rw [List.mem_singleton.1 hp]
      simpa using e
    · refine .inl fun p hp => ?_
      rw [List.mem_singleton.1 hp]
      simpa using e
end Go.Proofs.Ytmilcpejchjleaa

/- An engine for walks: hints by function. -/
namespace Go.Proofs.Ytmilcpejchjleaa
open Go.RowKit

theorem find1_mem {α : Type} : ∀ {l : List (Nat × α)} {r : Nat} {x : α}, find1 l r = some x → (r, x) ∈ l
  | [], _, _, h => by cases h
  | (a, y) :: l, r, x, h => by
    simp only [find1] at h
    split at h
    · rename_i e
      injection h with h
      subst e h
      exact List.mem_cons_self
    · exact List.mem_cons_of_mem _ (find1_mem h)

/-- these functions are reckoned with hints of their own -/
def inlAt (tab : List (Nat × Hints)) (P : Program) : Inl := fun g xs L nx =>
  match find1 tab g with
  | some hs =>
    match runFn hs P g xs L nx with
    | some (v, s, q) => if nx ≤ s.nx then some (v, keepL v L (heapF s.hp), s.nx, q) else none
    | none => none
  | none => none

theorem inlAt_ok {tab : List (Nat × Hints)} {P : Program} (h : ∀ e ∈ tab, InlOk P e.2.inl) : InlOk P (inlAt tab P) := by
  intro g xs L nx v L' nx' q h0 hq
  unfold inlAt at h0
  split at h0
  · rename_i hs hf
    split at h0
    · rename_i v1 s q1 h1
      split at h0
      · rename_i hle
        simp only [Option.some.injEq, Prod.mk.injEq] at h0
        obtain ⟨rfl, rfl, rfl, rfl⟩ := h0
        exact ⟨runFn_ok (h _ (find1_mem hf)) h1 hq (pickO_sub _), hle⟩
      · cases h0
    · cases h0
  · cases h0

def symH2 (P : Program) (op : List (Nat × Nat × Hn)) (gd : List (Nat × Nat × Bool)) (br : List (Nat × Bool)) (fam : List (Nat × LoopFam)) (tab : List (Nat × Hints)) : Hints :=
  { op := find2 op, gd := find2 gd, br := find1 br, fam := find1 fam, fuel := 10000, cl := true, inl := inlK (inlAt tab P) { cl := true, fuel := 10000 } P 30 }

theorem symH2_ok (P : Program) (op : List (Nat × Nat × Hn)) (gd : List (Nat × Nat × Bool)) (br : List (Nat × Bool)) (fam : List (Nat × LoopFam)) (tab : List (Nat × Hints)) (h : ∀ e ∈ tab, InlOk P e.2.inl) : InlOk P (symH2 P op gd br fam tab).inl :=
  inlK_ok (inlAt_ok h) _ _
end Go.Proofs.Ytmilcpejchjleaa
