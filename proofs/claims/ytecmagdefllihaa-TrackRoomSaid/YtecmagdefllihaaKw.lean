/- The awake functions of chapters 18 and 19 come to true; what is known in these chapters: sums, readers. -/
import Derived.Test.YtecmagdefllihaaKt
import Derived.Test.YtecmagdefllihaaEp
import Derived.Test.YtecmagdefllihaaFx
import Derived.Test.YtecmagdefllihaaRp
namespace Go.Proofs.Ytecmagdefllihaa
open Go.RowKit

def kSR : Inl := orInl kSum kRd
theorem kSR_ok : InlOk Try.prog kSR := orInl_ok kSum_ok kRd_ok
theorem awake18_comes : comesTrue noneKnown Try.prog 10000 30 15 = true := by kernel_rfl
theorem awake19_comes : comesTrue noneKnown Try.prog 10000 30 23 = true := by kernel_rfl

theorem reps0 {E : Env} {w : World} {vs : Array Value} (h : Reps E w [] vs) : vs = #[] := Array.eq_empty_of_size_eq_zero h.1

/-- closed functions that come to true -/
def kTrue (gs : List FuncId) : Inl := fun g xs L nx =>
  match xs with
  | [] => if gs.contains g then some (.val (.bool true), L, nx, []) else none
  | _ => none

theorem kTrue_ok {P : Program} {known : Inl} (hk : InlOk P known) {gs : List FuncId} (h : ∀ g ∈ gs, comesTrue known P 10000 30 g = true) : InlOk P (kTrue gs) := by
  intro g xs L nx v L' nx' q h0 hq
  unfold kTrue at h0
  split at h0
  · split at h0
    · rename_i hg
      simp only [Option.some.injEq, Prod.mk.injEq] at h0
      obtain ⟨rfl, rfl, rfl, rfl⟩ := h0
      refine ⟨ACall.plain fun E w vs hs hr => ?_, Nat.le_refl _⟩
      rw [reps0 hr]
      exact closed_true hk (h g (by simpa using hg)) w
    · cases h0
  · cases h0

def kAw : Inl := kTrue [15, 23]
theorem kAw_ok : InlOk Try.prog kAw := kTrue_ok noneKnown_ok fun g hg => by
  simp only [List.mem_cons, List.not_mem_nil, or_false] at hg
  rcases hg with rfl | rfl
  · exact awake18_comes
  · exact awake19_comes
/-- what is known in the chapters 18 and 19 -/
def kT : Inl := orInl kAw kSR
theorem kT_ok : InlOk Try.prog kT := orInl_ok kAw_ok kSR_ok
end Go.Proofs.Ytecmagdefllihaa
