/- The law CacheTimes, walked: whatever is given, it answers true. -/
import Derived.Test.YtmilcpejchjleaaCtRun
import Derived.Test.YtmilcpejchjleaaWn
namespace Go.Proofs.Ytmilcpejchjleaa.cacheTimes
open Go.RowKit

set_option maxHeartbeats 4000000 in
set_option maxRecDepth 100000 in
theorem walk (ttl at0 by0 : Int) (ht : 0 ≤ ttl ∧ ttl < 4294967296) (ha : -9223372036854775808 ≤ at0 ∧ at0 ≤ 9223372036854775807) (hb : -9223372036854775808 ≤ by0 ∧ by0 ≤ 9223372036854775807) :
    ∃ L' nx', ACall Try.prog 3 [.val (.int .u32 ttl), .val (.int .i64 at0), .val (.int .i64 by0)] [] 0 (.val (.bool true)) L' nx' := by
  by_cases h1 : at0 < 0
  · refine ⟨_, _, (outT_ok kN_ok (cacheTimes_a1 ttl at0 by0) ?_).1⟩
    repeat' (first | exact allNil | refine allCons ?_ ?_)
    all_goals first | exact True.intro | (with_reducible exact id) | (intros; with_reducible assumption) | omega | (simp; done) | (simp; omega) | (simp (disch := first | omega | (simp; omega)) [str_toList, wu8, wu32, fd256, fd65536, w64]; done) | (simp (disch := first | omega | (simp; omega)) [str_toList, wu8, wu32, fd256, fd65536, w64]; omega)
  by_cases h2 : 549755813888 < at0
  · refine ⟨_, _, (outT_ok kN_ok (cacheTimes_a2 ttl at0 by0) ?_).1⟩
    repeat' (first | exact allNil | refine allCons ?_ ?_)
    all_goals first | exact True.intro | (with_reducible exact id) | (intros; with_reducible assumption) | omega | (simp; done) | (simp; omega) | (simp (disch := first | omega | (simp; omega)) [str_toList, wu8, wu32, fd256, fd65536, w64]; done) | (simp (disch := first | omega | (simp; omega)) [str_toList, wu8, wu32, fd256, fd65536, w64]; omega)
  by_cases h3 : by0 < 0
  · refine ⟨_, _, (outT_ok kN_ok (cacheTimes_b1 ttl at0 by0) ?_).1⟩
    repeat' (first | exact allNil | refine allCons ?_ ?_)
    all_goals first | exact True.intro | (with_reducible exact id) | (intros; with_reducible assumption) | omega | (simp; done) | (simp; omega) | (simp (disch := first | omega | (simp; omega)) [str_toList, wu8, wu32, fd256, fd65536, w64]; done) | (simp (disch := first | omega | (simp; omega)) [str_toList, wu8, wu32, fd256, fd65536, w64]; omega)
  by_cases h4 : 68719476736 < by0
  · refine ⟨_, _, (outT_ok kN_ok (cacheTimes_b2 ttl at0 by0) ?_).1⟩
    repeat' (first | exact allNil | refine allCons ?_ ?_)
    all_goals first | exact True.intro | (with_reducible exact id) | (intros; with_reducible assumption) | omega | (simp; done) | (simp; omega) | (simp (disch := first | omega | (simp; omega)) [str_toList, wu8, wu32, fd256, fd65536, w64]; done) | (simp (disch := first | omega | (simp; omega)) [str_toList, wu8, wu32, fd256, fd65536, w64]; omega)
  by_cases h5 : ttl = 0
  · refine ⟨_, _, (outT_ok kN_ok (cacheTimes_zero ttl at0 by0) ?_).1⟩
    repeat' (first | exact allNil | refine allCons ?_ ?_)
    all_goals first | exact True.intro | (with_reducible exact id) | (intros; with_reducible assumption) | omega | exact rfl | (simp; done) | (simp; omega) | (simp (disch := first | omega | (simp; omega)) [str_toList, wu8, wu32, fd256, fd65536, w64]; done) | (simp (disch := first | omega | (simp; omega)) [str_toList, wu8, wu32, fd256, fd65536, w64]; omega)
  by_cases h6 : ttl ≤ 86400
  · have hmin : (if ttl < (86400 : Int) then ttl else (86400 : Int)) = ttl := by split <;> omega
    by_cases h7 : by0 < ttl
    · refine ⟨_, _, ((outT_ok kN_ok (cacheTimes_lt ttl at0 by0) ?_).1).truly ?_⟩
      · repeat' (first | exact allNil | refine allCons ?_ ?_)
        all_goals ((try simp only [hmin]) <;> (first | exact True.intro | (with_reducible exact id) | (intros; with_reducible assumption) | omega | exact rfl | (simp; done) | (simp; omega) | (simp (disch := first | omega | (simp; omega)) [str_toList, wu8, wu32, fd256, fd65536, w64]; done) | (simp (disch := first | omega | (simp; omega)) [str_toList, wu8, wu32, fd256, fd65536, w64]; omega)))
      · have z1 : IntKind.i64.wrap ttl = ttl := w64 _ (by omega)
        have z2 : IntKind.i64.wrap (at0 + by0) = at0 + by0 := w64 _ (by omega)
        have z3 : IntKind.i64.wrap (at0 + by0 - at0) = by0 := by rw [w64 _ (by omega)]; omega
        have z4 : IntKind.i64.wrap (ttl - by0) = ttl - by0 := w64 _ (by omega)
        have z5 : IntKind.u32.wrap (ttl - by0) = ttl - by0 := by rw [wu32]; omega
        have z6 : IntKind.u32.wrap ttl = ttl := by rw [wu32]; omega
        have z7 : ¬ (0 > ttl) := by omega
        have z8 : ¬ (0 > ttl - by0) := by omega
        simp [z1, z2, z3, z4, z5, z6, z7, z8]
    · refine ⟨_, _, (outT_ok kN_ok (cacheTimes_ge ttl at0 by0) ?_).1⟩
      repeat' (first | exact allNil | refine allCons ?_ ?_)
      all_goals ((try simp only [hmin]) <;> (first | exact True.intro | (with_reducible exact id) | (intros; with_reducible assumption) | omega | exact rfl | (simp; done) | (simp; omega) | (simp (disch := first | omega | (simp; omega)) [str_toList, wu8, wu32, fd256, fd65536, w64]; done) | (simp (disch := first | omega | (simp; omega)) [str_toList, wu8, wu32, fd256, fd65536, w64]; omega)))
  have hmin : (if ttl < (86400 : Int) then ttl else (86400 : Int)) = 86400 := by split <;> omega
  by_cases h7 : by0 < 86400
  · refine ⟨_, _, ((outT_ok kN_ok (cacheTimes_blt ttl at0 by0) ?_).1).truly ?_⟩
    · repeat' (first | exact allNil | refine allCons ?_ ?_)
      all_goals ((try simp only [hmin]) <;> (first | exact True.intro | (with_reducible exact id) | (intros; with_reducible assumption) | omega | exact rfl | (simp; done) | (simp; omega) | (simp (disch := first | omega | (simp; omega)) [str_toList, wu8, wu32, fd256, fd65536, w64]; done) | (simp (disch := first | omega | (simp; omega)) [str_toList, wu8, wu32, fd256, fd65536, w64]; omega)))
    · have z1 : IntKind.i64.wrap ttl = ttl := w64 _ (by omega)
      have z2 : IntKind.i64.wrap (at0 + by0) = at0 + by0 := w64 _ (by omega)
      have z3 : IntKind.i64.wrap (at0 + by0 - at0) = by0 := by rw [w64 _ (by omega)]; omega
      have z4 : IntKind.i64.wrap (ttl - by0) = ttl - by0 := w64 _ (by omega)
      have z5 : IntKind.u32.wrap (ttl - by0) = ttl - by0 := by rw [wu32]; omega
      have z6 : IntKind.u32.wrap ttl = ttl := by rw [wu32]; omega
      have z7 : ¬ (0 > ttl) := by omega
      have z8 : ¬ (0 > ttl - by0) := by omega
      simp [z1, z2, z3, z4, z5, z6, z7, z8]
  · refine ⟨_, _, (outT_ok kN_ok (cacheTimes_bge ttl at0 by0) ?_).1⟩
    repeat' (first | exact allNil | refine allCons ?_ ?_)
    all_goals ((try simp only [hmin]) <;> (first | exact True.intro | (with_reducible exact id) | (intros; with_reducible assumption) | omega | exact rfl | (simp; done) | (simp; omega) | (simp (disch := first | omega | (simp; omega)) [str_toList, wu8, wu32, fd256, fd65536, w64]; done) | (simp (disch := first | omega | (simp; omega)) [str_toList, wu8, wu32, fd256, fd65536, w64]; omega)))
end Go.Proofs.Ytmilcpejchjleaa.cacheTimes
