/- The four awake functions come to true: known to the engine. -/
import Derived.Test.YtoekncmggjhmjaaKn
namespace Go.Proofs.Ytoekncmggjhmjaa
open Go.RowKit

theorem awake6_comes : comesTrue noneKnown Try.prog 10000 30 57 = true := by kernel_rfl
theorem awake7_comes : comesTrue noneKnown Try.prog 10000 30 40 = true := by kernel_rfl
theorem awake8_comes : comesTrue noneKnown Try.prog 10000 30 48 = true := by kernel_rfl
theorem awake9_comes : comesTrue noneKnown Try.prog 10000 30 25 = true := by kernel_rfl

theorem reps0 {E : Env} {w : World} {vs : Array Value} (h : Reps E w [] vs) : vs = #[] := Array.eq_empty_of_size_eq_zero h.1

/-- closed functions that come to true -/
def kTrue (gs : List FuncId) : Inl := fun g xs L nx =>
  match xs with
  | [] => if gs.contains g then some (.val (.bool true), L, nx, []) else none
  | _ => none

theorem kTrue_ok {P : Program} {gs : List FuncId} (h : ∀ g ∈ gs, comesTrue noneKnown P 10000 30 g = true) : InlOk P (kTrue gs) := by
  intro g xs L nx v L' nx' q h0 hq
  unfold kTrue at h0
  split at h0
  · split at h0
    · rename_i hg
      simp only [Option.some.injEq, Prod.mk.injEq] at h0
      obtain ⟨rfl, rfl, rfl, rfl⟩ := h0
      refine ⟨ACall.plain fun E w vs hs hr => ?_, Nat.le_refl _⟩
      rw [reps0 hr]
      exact closed_true noneKnown_ok (h g (by simpa using hg)) w
    · cases h0
  · cases h0

/-- what is known in the chapters 6 to 9 -/
def k69 : Inl := orInl (kTrue [57, 40, 48, 25]) (orInl kSum kRd)
theorem k69_ok : InlOk Try.prog k69 := orInl_ok (kTrue_ok fun g hg => by
  simp only [List.mem_cons, List.not_mem_nil, or_false] at hg
  rcases hg with rfl | rfl | rfl | rfl
  · exact awake6_comes
  · exact awake7_comes
  · exact awake8_comes
  · exact awake9_comes) (orInl_ok kSum_ok kRd_ok)
end Go.Proofs.Ytoekncmggjhmjaa
