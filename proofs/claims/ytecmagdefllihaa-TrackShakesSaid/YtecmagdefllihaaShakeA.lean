/- TrackShakes, reckoned: the number of acknowledgements is out of range. -/
import Derived.Test.YtecmagdefllihaaEt
import Derived.Test.YtecmagdefllihaaCard
namespace Go.Proofs.Ytecmagdefllihaa.trackShakes
open Go.RowKit

theorem low (x z : Bool) (a : Int) : outQ (symH Try.prog [(3, 5, .br true)] [(3, 3, true), (3, 4, true)] [] []) Try.prog 6 [.bool x, .int .i64 a, .bool z] = some (.val (.bool true), [decide (a < 0) = true, decide (a < 0) = true, decide (a < 0) = true]) := by kernel_rfl
theorem high (x z : Bool) (a : Int) : outQ (symH Try.prog [(3, 5, .br false)] [(3, 3, false), (3, 4, false)] [(23, true)] []) Try.prog 6 [.bool x, .int .i64 a, .bool z] = some (.val (.bool true), [decide (a < 0) = false, decide (a < 0) = false, decide (a < 0) = false, decide (50 < a) = true]) := by kernel_rfl
end Go.Proofs.Ytecmagdefllihaa.trackShakes
