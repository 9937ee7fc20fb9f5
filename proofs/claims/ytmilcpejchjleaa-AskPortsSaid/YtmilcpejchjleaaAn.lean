/- The awake functions of chapters 20 to 23 come to true: known to the engine, beside Join. -/
import Derived.Test.YtmilcpejchjleaaJoin
import Derived.Test.YtmilcpejchjleaaFx
namespace Go.Proofs.Ytmilcpejchjleaa
open Go.RowKit

theorem awake20_comes : comesTrue kJoin Try.prog 10000 30 40 = true := by kernel_rfl
theorem awake21_comes : comesTrue kJoin Try.prog 10000 30 56 = true := by kernel_rfl
theorem awake22_comes : comesTrue kJoin Try.prog 10000 30 24 = true := by kernel_rfl
theorem awake23_comes : comesTrue kJoin Try.prog 10000 30 32 = true := by kernel_rfl

theorem reps0 {E : Env} {w : World} {vs : Array Value} (h : Reps E w [] vs) : vs = #[] := Array.eq_empty_of_size_eq_zero h.1

/-- closed functions that come to true -/
def kTrue (gs : List FuncId) : Inl := fun g xs L nx =>
  match xs with
  | [] => if gs.contains g then some (.val (.bool true), L, nx, []) else none
  | _ => none

theorem kTrue_ok {P : Program} {known : Inl} (hk : InlOk P known) {gs : List FuncId} (h : ∀ g ∈ gs, comesTrue known P 10000 30 g = true) : InlOk P (kTrue gs) := by
  intro g xs L nx v L' nx' q h0 hq
  unfold kTrue at h0
  split at h0
  · split at h0
    · rename_i hg
      simp only [Option.some.injEq, Prod.mk.injEq] at h0
      obtain ⟨rfl, rfl, rfl, rfl⟩ := h0
      refine ⟨ACall.plain fun E w vs hs hr => ?_, Nat.le_refl _⟩
      rw [reps0 hr]
      exact closed_true hk (h g (by simpa using hg)) w
    · cases h0
  · cases h0

/-- what is known in the chapters 20 to 23 -/
def kN : Inl := orInl (kTrue [40, 56, 24, 32]) kJoin
theorem kN_ok : InlOk Try.prog kN := orInl_ok (kTrue_ok kJoin_ok fun g hg => by
  simp only [List.mem_cons, List.not_mem_nil, or_false] at hg
  rcases hg with rfl | rfl | rfl | rfl
  · exact awake20_comes
  · exact awake21_comes
  · exact awake22_comes
  · exact awake23_comes) kJoin_ok
end Go.Proofs.Ytmilcpejchjleaa
