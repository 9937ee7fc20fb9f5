/- A condition that is asked for again and again, written once. -/
import Derived.Test.YtfofhpkafhpicaaGreatDoorMez
namespace Go.Proofs.YtfofhpkafhpicaaGreatDoor

def rp : Nat → Prop → List Prop → List Prop
  | 0, _, l => l
  | n + 1, p, l => p :: rp n p l

theorem allRp {p : Prop} {q : List Prop} (n : Nat) (h : p) (hq : ∀ x ∈ q, x) : ∀ x ∈ rp n p q, x := by
  induction n with
  | zero => exact hq
  | succ n ih =>
    intro x hx
    rcases List.mem_cons.1 hx with rfl | hx
    · exact h
    · exact ih x hx
end Go.Proofs.YtfofhpkafhpicaaGreatDoor
