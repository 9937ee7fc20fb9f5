/- Closed calls are reckoned. -/
import Derived.Test.YtfofhpkafhpicaaGreatDoorMup
import Derived.Test.YtfofhpkafhpicaaGreatDoorMst
namespace Go.Proofs.YtfofhpkafhpicaaGreatDoor
open Go.RowKit

theorem upC3_ok (h : ∀ c ∈ ([] : List CC), c.ok Tryz.prog) : upC3.ok Tryz.prog := closed_call (fuel := 10000) (deep := 50) (orInl_ok kCl_ok (kCC_ok h)) (by kernel_rfl)
theorem upC4_ok (h : ∀ c ∈ ([] : List CC), c.ok Tryz.prog) : upC4.ok Tryz.prog := closed_call (fuel := 10000) (deep := 50) (orInl_ok kCl_ok (kCC_ok h)) (by kernel_rfl)
end Go.Proofs.YtfofhpkafhpicaaGreatDoor
