/- The law NatKnown, walked: it answers true. -/
import Derived.Test.YtecmagdefllihaaNkRun
namespace Go.Proofs.Ytecmagdefllihaa.natKnown
open Go.RowKit

theorem walk : ∃ L' nx', ACall Try.prog 14 [] [] 0 (.val (.bool true)) L' nx' := by
  refine ⟨_, _, (outT_ok kTT_ok (natKnown_run 0) ?_).1⟩
  repeat' (first | exact allNil | refine allCons ?_ ?_ | (with_reducible refine allRp _ ?_ ?_))
  all_goals first | (with_reducible rfl) | decide | (simp; done)
end Go.Proofs.Ytecmagdefllihaa.natKnown
