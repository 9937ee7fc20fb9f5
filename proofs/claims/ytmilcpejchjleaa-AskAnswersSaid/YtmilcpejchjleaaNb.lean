/- The small letter of a sign: what the program's function yields. -/
import Derived.Test.YtmilcpejchjleaaNaRun
namespace Go.Proofs.Ytmilcpejchjleaa
open Go.RowKit

theorem small_call (z : Int) (h : 0 ≤ z ∧ z < 256) (L : List (Nat × AObj)) (nx : Nat) : ACall Try.prog 122 [.val (.int .u8 z)] L nx (.val (.int .u8 (low z))) L nx := by
  have hx : ∀ r, renL r [AV.val (Value.int .u8 z)] = [AV.val (Value.int .u8 z)] := fun r => rfl
  by_cases h1 : z < 65
  · have e : low z = z := by unfold low; rw [if_neg (by omega)]
    rw [e]
    exact (outT_ok kN_ok (small_lo z) (allRp _ (by simp; omega) allNil)).1.lift hx L nx
  · by_cases h2 : 90 < z
    · have e : low z = z := by unfold low; rw [if_neg (by omega)]
      rw [e]
      exact (outT_ok kN_ok (small_hi z) (allRp _ (by simp; omega) (allCons (by simp; omega) allNil))).1.lift hx L nx
    · have e : low z = IntKind.wrap IntKind.u8 (IntKind.wrap IntKind.u8 (z - (65 : Int)) + (97 : Int)) := by
        unfold low; rw [if_pos (by omega), wu8, wu8]; omega
      rw [e]
      exact (outT_ok kN_ok (small_up z) (allRp _ (by simp; omega) (allCons (by simp; omega) allNil))).1.lift hx L nx

def kSmall : Inl := fun g xs L nx =>
  if g = 122 then
    match xs with
    | [.val (.int .u8 z)] => some (.val (.int .u8 (low z)), L, nx, [0 ≤ z ∧ z < 256])
    | _ => none
  else none
theorem kSmall_ok : InlOk Try.prog kSmall := by
  intro g xs L nx v L' nx' q h hq
  unfold kSmall at h
  split at h
  · rename_i hg
    subst hg
    split at h
    · simp only [Option.some.injEq, Prod.mk.injEq] at h
      obtain ⟨rfl, rfl, rfl, rfl⟩ := h
      exact ⟨small_call _ (hq _ (List.mem_singleton.2 rfl)) L nx, Nat.le_refl _⟩
    · cases h
  · cases h
def kN1 : Inl := orInl kSmall kN
theorem kN1_ok : InlOk Try.prog kN1 := orInl_ok kSmall_ok kN_ok
end Go.Proofs.Ytmilcpejchjleaa
