/- Closed calls are reckoned. -/
import Derived.Test.YtfofhpkafhpicaaGreatDoorMup
import Derived.Test.YtfofhpkafhpicaaGreatDoorMst
namespace Go.Proofs.YtfofhpkafhpicaaGreatDoor
open Go.RowKit

theorem upC18_ok (h : ∀ c ∈ ([upC17] : List CC), c.ok Tryz.prog) : upC18.ok Tryz.prog := closed_call (fuel := 10000) (deep := 50) (orInl_ok kCl_ok (kCC_ok h)) (by kernel_rfl)
theorem upC19_ok (h : ∀ c ∈ ([upC18] : List CC), c.ok Tryz.prog) : upC19.ok Tryz.prog := closed_call (fuel := 10000) (deep := 50) (orInl_ok kCl_ok (kCC_ok h)) (by kernel_rfl)
end Go.Proofs.YtfofhpkafhpicaaGreatDoor
