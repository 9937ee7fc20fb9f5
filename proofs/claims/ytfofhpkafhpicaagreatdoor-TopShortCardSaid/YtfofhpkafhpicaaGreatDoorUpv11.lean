/- Closed calls are reckoned. -/
import Derived.Test.YtfofhpkafhpicaaGreatDoorMup
import Derived.Test.YtfofhpkafhpicaaGreatDoorMst
namespace Go.Proofs.YtfofhpkafhpicaaGreatDoor
open Go.RowKit

theorem upC20_ok (h : ∀ c ∈ ([] : List CC), c.ok Tryz.prog) : upC20.ok Tryz.prog := closed_call (fuel := 10000) (deep := 50) (orInl_ok kCl_ok (kCC_ok h)) (by kernel_rfl)
theorem upC21_ok (h : ∀ c ∈ ([upC20] : List CC), c.ok Tryz.prog) : upC21.ok Tryz.prog := closed_call (fuel := 10000) (deep := 50) (orInl_ok kCl_ok (kCC_ok h)) (by kernel_rfl)
theorem upC22_ok (h : ∀ c ∈ ([upC21, upC19, upC16, upC14, upC11, upC9, upC6, upC5, upC3, upC2] : List CC), c.ok Tryz.prog) : upC22.ok Tryz.prog := closed_call (fuel := 10000) (deep := 50) (orInl_ok kCl_ok (kCC_ok h)) (by kernel_rfl)
end Go.Proofs.YtfofhpkafhpicaaGreatDoor
