/- TrackShakes, reckoned: in true, first true, a number of acknowledgements in range. -/
import Derived.Test.YtecmagdefllihaaEt
import Derived.Test.YtecmagdefllihaaCard
namespace Go.Proofs.Ytecmagdefllihaa.trackShakes
open Go.RowKit

theorem midB (a : Int) : outQ (symH Try.prog [(3, 5, .br false)] [(3, 3, false), (3, 4, false)] [(23, false)] [(10, ⟨50, 46, [0, 1, 2, 7, 9, 10, 11, 12], [573, 658], [2, 7, 9, 10, 11], [573, 658], 100000⟩)]) Try.prog 6 [.bool true, .int .i64 a, .bool true] =
    some (.val (.bool true), [decide (a < 0) = false, decide (a < 0) = false, decide (a < 0) = false, decide (50 < a) = false, famP (upTo a 50 0)]) := by kernel_rfl
end Go.Proofs.Ytecmagdefllihaa.trackShakes
