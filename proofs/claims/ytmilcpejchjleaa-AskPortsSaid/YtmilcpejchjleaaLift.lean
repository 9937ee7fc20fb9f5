/- Calls out of values that lead to no object: what they do out of nothing they do anywhere. -/
import Derived.Test.YtmilcpejchjleaaAn
namespace Go.Proofs.Ytmilcpejchjleaa
open Go.RowKit

theorem ACall.lift {P : Program} {g : FuncId} {xs : List AV} {L' : List (Nat × AObj)} {n' : Nat} {v : Value} (h : ACall P g xs [] 0 (.val v) L' n') (hx : ∀ r, renL r xs = xs) (L : List (Nat × AObj)) (nx : Nat) : ACall P g xs L nx (.val v) L nx := by
  refine ACall.plain fun E w vs hs hr => ?_
  have s0 : Sat ⟨fun _ => none, E.I⟩ 0 (hp []) w := ⟨fun _ _ h => by simp [hp] at h, fun _ _ _ _ _ _ _ _ _ h => by simp [hp] at h, fun _ _ => rfl, hs.imm⟩
  have r0 : Reps ⟨fun _ => none, E.I⟩ w xs vs := by
    refine ⟨hr.1, fun k a u h1 h2 => ?_⟩
    have e : (renL (fun id => id + nx) xs)[k]? = some (a.ren fun id => id + nx) := by rw [renL_get, h1]; rfl
    rw [hx] at e
    exact Rep.of_ren (E := E) (E0 := ⟨fun _ => none, E.I⟩) (r := fun id => id + nx) (fun _ h => h) (fun id => (hs.fresh (id + nx) (by omega)).symm) (hr.2 k _ u e h2) a rfl
  refine Calls.mono (h _ w vs s0 r0) fun e w' hh => ?_
  obtain ⟨E', u, rfl, _, rr, x⟩ := hh
  rw [rr.val_inv]
  exact ⟨rfl, x.os, x.tape, x.output, x.size, fun b hb => x.fr b hb fun ⟨id, o, c, z, h1, _⟩ => by simp [hp] at h1⟩
end Go.Proofs.Ytmilcpejchjleaa
