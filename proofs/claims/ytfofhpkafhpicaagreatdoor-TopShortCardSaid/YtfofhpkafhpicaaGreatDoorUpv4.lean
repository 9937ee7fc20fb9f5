/- Closed calls are reckoned. -/
import Derived.Test.YtfofhpkafhpicaaGreatDoorMup
import Derived.Test.YtfofhpkafhpicaaGreatDoorMst
namespace Go.Proofs.YtfofhpkafhpicaaGreatDoor
open Go.RowKit

theorem upC8_ok (h : ∀ c ∈ ([upC7] : List CC), c.ok Tryz.prog) : upC8.ok Tryz.prog := closed_call (fuel := 10000) (deep := 50) (orInl_ok kCl_ok (kCC_ok h)) (by kernel_rfl)
theorem upC9_ok (h : ∀ c ∈ ([upC8] : List CC), c.ok Tryz.prog) : upC9.ok Tryz.prog := closed_call (fuel := 10000) (deep := 50) (orInl_ok kCl_ok (kCC_ok h)) (by kernel_rfl)
end Go.Proofs.YtfofhpkafhpicaaGreatDoor
