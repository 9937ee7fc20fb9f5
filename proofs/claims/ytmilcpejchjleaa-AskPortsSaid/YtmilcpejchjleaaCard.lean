/- What the cards of all statements ask: two closed facts. No condition. -/
import Derived.Test.YtmilcpejchjleaaRows
import Derived.ProofKit
import Derived.OpenShut
import Derived.ShutString
import Derived.ChangeOld
import Derived.Lib.SmallJoins
import Derived.KernelRfl
namespace Go.Proofs.Ytmilcpejchjleaa
open Go.ChangeShapes Go.WideShapes Go.ChangeAt Go.RowKit

theorem own : ownKnob Try.prog.godebug = none := by kernel_rfl
theorem laidOut : laidOutB Try.prog = true := by kernel_rfl
end Go.Proofs.Ytmilcpejchjleaa
