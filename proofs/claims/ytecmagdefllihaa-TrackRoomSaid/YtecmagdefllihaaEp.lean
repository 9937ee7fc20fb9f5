/- An engine for walks: a closed function that comes to true. -/
import Derived.Test.YtecmagdefllihaaEm
namespace Go.Proofs.Ytecmagdefllihaa
open Go.RowKit

theorem noneKnown_ok {P : Program} : InlOk P noneKnown := fun _ _ _ _ _ _ _ _ h => by cases h

/-- a closed function, reckoned: does it come to true? -/
def comesTrue (known : Inl) (P : Program) (fuel deep : Nat) (g : FuncId) : Bool :=
  match inlK known { cl := true, fuel := fuel } P deep g [] [] 0 with
  | some (.val (.bool true), _, _, []) => true
  | _ => false

theorem closed_true {P : Program} {known : Inl} (hk : InlOk P known) {fuel deep : Nat} {g : FuncId} (h : comesTrue known P fuel deep g = true) (w : World) :
    Calls P g #[] w fun e w' => e = .returned (.bool true) ∧ Below w.heap.size w w' := by
  unfold comesTrue at h
  split at h
  · rename_i L nx hi
    obtain ⟨hc, _⟩ := inlK_ok hk _ deep g [] [] 0 _ L nx [] hi (fun p hp => by cases hp)
    refine Calls.mono (hc ⟨fun _ => none, fun _ => False⟩ w #[] ⟨fun _ _ h => by simp [hp] at h, fun _ _ _ _ _ _ _ _ _ h => by simp [hp] at h, fun _ _ => rfl, fun _ h => h.elim⟩ ⟨rfl, fun k a v h => by simp at h⟩) fun e w' hh => ?_
    obtain ⟨E', u, rfl, _, t2, t3⟩ := hh
    rw [t2.val_inv]
    exact ⟨rfl, t3.os, t3.tape, t3.output, t3.size, fun b hb => t3.fr b hb fun ⟨id, x, c, z, h1, _⟩ => by simp [hp] at h1⟩
  · cases h
end Go.Proofs.Ytecmagdefllihaa
