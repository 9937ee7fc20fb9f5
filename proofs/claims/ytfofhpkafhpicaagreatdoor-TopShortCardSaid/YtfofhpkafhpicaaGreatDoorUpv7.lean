/- Closed calls are reckoned. -/
import Derived.Test.YtfofhpkafhpicaaGreatDoorMup
import Derived.Test.YtfofhpkafhpicaaGreatDoorMst
namespace Go.Proofs.YtfofhpkafhpicaaGreatDoor
open Go.RowKit

theorem upC13_ok (h : ∀ c ∈ ([upC12] : List CC), c.ok Tryz.prog) : upC13.ok Tryz.prog := closed_call (fuel := 10000) (deep := 50) (orInl_ok kCl_ok (kCC_ok h)) (by kernel_rfl)
theorem upC14_ok (h : ∀ c ∈ ([upC13] : List CC), c.ok Tryz.prog) : upC14.ok Tryz.prog := closed_call (fuel := 10000) (deep := 50) (orInl_ok kCl_ok (kCC_ok h)) (by kernel_rfl)
end Go.Proofs.YtfofhpkafhpicaaGreatDoor
