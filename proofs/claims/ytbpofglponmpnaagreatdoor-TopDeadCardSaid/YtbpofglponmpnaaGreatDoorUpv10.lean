/- Closed calls are reckoned. -/
import Derived.Test.YtbpofglponmpnaaGreatDoorUpd0
import Derived.Test.YtbpofglponmpnaaGreatDoorUpd1
import Derived.Test.YtbpofglponmpnaaGreatDoorMst
namespace Go.Proofs.YtbpofglponmpnaaGreatDoor
open Go.RowKit

theorem upC18_ok (h : ∀ c ∈ ([upC17] : List CC), c.ok Tryz.prog) : upC18.ok Tryz.prog := closed_call (fuel := 10000) (deep := 50) (orInl_ok kCl_ok (kCC_ok h)) (by kernel_rfl)
theorem upC19_ok (h : ∀ c ∈ ([upC18] : List CC), c.ok Tryz.prog) : upC19.ok Tryz.prog := closed_call (fuel := 10000) (deep := 50) (orInl_ok kCl_ok (kCC_ok h)) (by kernel_rfl)
end Go.Proofs.YtbpofglponmpnaaGreatDoor
