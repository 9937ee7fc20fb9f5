/- The law AskTimes, walked: whatever is given, it answers true. -/
import Derived.Test.YtmilcpejchjleaaKtRun
import Derived.Test.YtmilcpejchjleaaWn
namespace Go.Proofs.Ytmilcpejchjleaa.askTimes
open Go.RowKit

set_option maxHeartbeats 4000000 in
set_option maxRecDepth 100000 in
theorem walk (at0 later : Int) (ha : -9223372036854775808 ≤ at0 ∧ at0 ≤ 9223372036854775807) (hl : -9223372036854775808 ≤ later ∧ later ≤ 9223372036854775807) :
    ∃ L' nx', ACall Try.prog 18 [.val (.int .i64 at0), .val (.int .i64 later)] [] 0 (.val (.bool true)) L' nx' := by
  by_cases h1 : at0 < 0
  · refine ⟨_, _, (outT_ok kN_ok (askTimes_a1 at0 later) ?_).1⟩
    repeat' (first | exact allNil | refine allCons ?_ ?_ | (with_reducible refine allRp _ ?_ ?_))
    all_goals first | exact True.intro | (with_reducible exact id) | (intros; with_reducible assumption) | omega | (simp; done) | (simp; omega) | (simp (disch := first | omega | (simp; omega)) [str_toList, wu8, wu32, fd16, w64, u8rt, isB]; done) | (simp (disch := first | omega | (simp; omega)) [str_toList, wu8, wu32, fd16, w64, u8rt, isB]; omega)
  by_cases h2 : 549755813888 < at0
  · refine ⟨_, _, (outT_ok kN_ok (askTimes_a2 at0 later) ?_).1⟩
    repeat' (first | exact allNil | refine allCons ?_ ?_ | (with_reducible refine allRp _ ?_ ?_))
    all_goals first | exact True.intro | (with_reducible exact id) | (intros; with_reducible assumption) | omega | (simp; done) | (simp; omega) | (simp (disch := first | omega | (simp; omega)) [str_toList, wu8, wu32, fd16, w64, u8rt, isB]; done) | (simp (disch := first | omega | (simp; omega)) [str_toList, wu8, wu32, fd16, w64, u8rt, isB]; omega)
  by_cases h3 : later < 0
  · refine ⟨_, _, (outT_ok kN_ok (askTimes_b1 at0 later) ?_).1⟩
    repeat' (first | exact allNil | refine allCons ?_ ?_ | (with_reducible refine allRp _ ?_ ?_))
    all_goals first | exact True.intro | (with_reducible exact id) | (intros; with_reducible assumption) | omega | (simp; done) | (simp; omega) | (simp (disch := first | omega | (simp; omega)) [str_toList, wu8, wu32, fd16, w64, u8rt, isB]; done) | (simp (disch := first | omega | (simp; omega)) [str_toList, wu8, wu32, fd16, w64, u8rt, isB]; omega)
  by_cases h4 : 100 < later
  · refine ⟨_, _, (outT_ok kN_ok (askTimes_b2 at0 later) ?_).1⟩
    repeat' (first | exact allNil | refine allCons ?_ ?_ | (with_reducible refine allRp _ ?_ ?_))
    all_goals first | exact True.intro | (with_reducible exact id) | (intros; with_reducible assumption) | omega | (simp; done) | (simp; omega) | (simp (disch := first | omega | (simp; omega)) [str_toList, wu8, wu32, fd16, w64, u8rt, isB]; done) | (simp (disch := first | omega | (simp; omega)) [str_toList, wu8, wu32, fd16, w64, u8rt, isB]; omega)
  have z1 : IntKind.wrap IntKind.i64 (at0 + later) = at0 + later := w64 _ (by omega)
  have z2 : IntKind.wrap IntKind.u64 (at0 + later) = at0 + later := wu64 _ (by omega)
  have z3 : IntKind.wrap IntKind.u64 at0 = at0 := wu64 _ (by omega)
  have z4 : IntKind.wrap IntKind.u64 later = later := wu64 _ (by omega)
  have z5 : IntKind.wrap IntKind.i64 at0 = at0 := w64 _ (by omega)
  have z6 : IntKind.wrap IntKind.i64 (at0 + 60) = at0 + 60 := w64 _ (by omega)
  have z7 : at0 + later - at0 = later := by omega
  by_cases h5 : later < 5
  · refine ⟨_, _, (outS_ok kN_ok (askTimes_soon at0 later) ?_).1⟩
    repeat' (first | exact allNil | refine allCons ?_ ?_ | (with_reducible refine allRp _ ?_ ?_))
    all_goals ((try simp only [z1, z2, z3, z4, z5, z6, z7]) <;> (first | exact True.intro | (with_reducible exact id) | (intros; with_reducible assumption) | omega | exact rfl | (simp; done) | (simp; omega) | (simp (disch := first | omega | (simp; omega)) [str_toList, wu8, wu32, fd16, w64, u8rt, isB]; done) | (simp (disch := first | omega | (simp; omega)) [str_toList, wu8, wu32, fd16, w64, u8rt, isB]; omega)))
  refine ⟨_, _, (outT_ok kN_ok (askTimes_late at0 later) ?_).1⟩
  repeat' (first | exact allNil | refine allCons ?_ ?_ | (with_reducible refine allRp _ ?_ ?_))
  all_goals ((try simp only [z1, z2, z3, z4, z5, z6, z7]) <;> (first | exact True.intro | (with_reducible exact id) | (intros; with_reducible assumption) | omega | exact rfl | (simp; done) | (simp; omega) | (simp (disch := first | omega | (simp; omega)) [str_toList, wu8, wu32, fd16, w64, u8rt, isB]; done) | (simp (disch := first | omega | (simp; omega)) [str_toList, wu8, wu32, fd16, w64, u8rt, isB]; omega)))
end Go.Proofs.Ytmilcpejchjleaa.askTimes
