/- The law AskAnswers, walked: whatever is given, it answers true. -/
import Derived.Test.YtmilcpejchjleaaKaRun
import Derived.Test.YtmilcpejchjleaaWn
namespace Go.Proofs.Ytmilcpejchjleaa.askAnswers
open Go.RowKit

theorem alike_self (a : List UInt8) : (!alikeB a a) = false := by simp [alikeB]

set_option maxHeartbeats 4000000 in
set_option maxRecDepth 100000 in
theorem walk (n id other draw : Int) (hd : 0 ≤ draw ∧ draw < 4294967296) (hn : -9223372036854775808 ≤ n ∧ n ≤ 9223372036854775807) (hid : -9223372036854775808 ≤ id ∧ id ≤ 9223372036854775807) (ho : -9223372036854775808 ≤ other ∧ other ≤ 9223372036854775807) :
    ∃ L' nx', ACall Try.prog 9 [.val (.int .i64 n), .val (.int .i64 id), .val (.int .i64 other), .val (.int .u32 draw)] [] 0 (.val (.bool true)) L' nx' := by
  by_cases h1 : n < 0
  · refine ⟨_, _, (outT_ok kN2_ok (askAnswers_n1 n id other draw) ?_).1⟩
    repeat' (first | exact allNil | refine allCons ?_ ?_ | (with_reducible refine allRp _ ?_ ?_))
    all_goals first | exact True.intro | (with_reducible exact id) | (intros; with_reducible assumption) | omega | exact rfl | (simp; done) | (simp; omega) | (simp (disch := first | omega | (simp; omega)) [str_toList, wu8, wu32, fd16, w64, u8rt, isB]; done) | (simp (disch := first | omega | (simp; omega)) [str_toList, wu8, wu32, fd16, w64, u8rt, isB]; omega)
  by_cases h2 : 100 < n
  · refine ⟨_, _, (outT_ok kN2_ok (askAnswers_n2 n id other draw) ?_).1⟩
    repeat' (first | exact allNil | refine allCons ?_ ?_ | (with_reducible refine allRp _ ?_ ?_))
    all_goals first | exact True.intro | (with_reducible exact id) | (intros; with_reducible assumption) | omega | exact rfl | (simp; done) | (simp; omega) | (simp (disch := first | omega | (simp; omega)) [str_toList, wu8, wu32, fd16, w64, u8rt, isB]; done) | (simp (disch := first | omega | (simp; omega)) [str_toList, wu8, wu32, fd16, w64, u8rt, isB]; omega)
  by_cases h3 : other < 0
  · refine ⟨_, _, (outT_ok kN2_ok (askAnswers_o1 n id other draw) ?_).1⟩
    repeat' (first | exact allNil | refine allCons ?_ ?_ | (with_reducible refine allRp _ ?_ ?_))
    all_goals first | exact True.intro | (with_reducible exact id) | (intros; with_reducible assumption) | omega | exact rfl | (simp; done) | (simp; omega) | (simp (disch := first | omega | (simp; omega)) [str_toList, wu8, wu32, fd16, w64, u8rt, isB]; done) | (simp (disch := first | omega | (simp; omega)) [str_toList, wu8, wu32, fd16, w64, u8rt, isB]; omega)
  by_cases h4 : 100 < other
  · refine ⟨_, _, (outT_ok kN2_ok (askAnswers_o2 n id other draw) ?_).1⟩
    repeat' (first | exact allNil | refine allCons ?_ ?_ | (with_reducible refine allRp _ ?_ ?_))
    all_goals first | exact True.intro | (with_reducible exact id) | (intros; with_reducible assumption) | omega | exact rfl | (simp; done) | (simp; omega) | (simp (disch := first | omega | (simp; omega)) [str_toList, wu8, wu32, fd16, w64, u8rt, isB]; done) | (simp (disch := first | omega | (simp; omega)) [str_toList, wu8, wu32, fd16, w64, u8rt, isB]; omega)
  by_cases h5 : other = n
  · refine ⟨_, _, (outT_ok kN2_ok (askAnswers_same n id other draw) ?_).1⟩
    repeat' (first | exact allNil | refine allCons ?_ ?_ | (with_reducible refine allRp _ ?_ ?_))
    all_goals first | exact True.intro | (with_reducible exact id) | (intros; with_reducible assumption) | omega | exact rfl | (simp; done) | (simp; omega) | (simp (disch := first | omega | (simp; omega)) [str_toList, wu8, wu32, fd16, w64, u8rt, isB]; done) | (simp (disch := first | omega | (simp; omega)) [str_toList, wu8, wu32, fd16, w64, u8rt, isB]; omega)
  by_cases h6 : id < 0
  · refine ⟨_, _, (outT_ok kN2_ok (askAnswers_i1 n id other draw) ?_).1⟩
    repeat' (first | exact allNil | refine allCons ?_ ?_ | (with_reducible refine allRp _ ?_ ?_))
    all_goals first | exact True.intro | (with_reducible exact id) | (intros; with_reducible assumption) | omega | exact rfl | (simp; done) | (simp; omega) | (simp (disch := first | omega | (simp; omega)) [str_toList, wu8, wu32, fd16, w64, u8rt, isB]; done) | (simp (disch := first | omega | (simp; omega)) [str_toList, wu8, wu32, fd16, w64, u8rt, isB]; omega)
  by_cases h7 : 65535 < id
  · refine ⟨_, _, (outT_ok kN2_ok (askAnswers_i2 n id other draw) ?_).1⟩
    repeat' (first | exact allNil | refine allCons ?_ ?_ | (with_reducible refine allRp _ ?_ ?_))
    all_goals first | exact True.intro | (with_reducible exact id) | (intros; with_reducible assumption) | omega | exact rfl | (simp; done) | (simp; omega) | (simp (disch := first | omega | (simp; omega)) [str_toList, wu8, wu32, fd16, w64, u8rt, isB]; done) | (simp (disch := first | omega | (simp; omega)) [str_toList, wu8, wu32, fd16, w64, u8rt, isB]; omega)
  have y1 : IntKind.wrap IntKind.i64 (Int.fdiv draw (65536 : Int)) = draw / 65536 := by rw [fd65536, w64 _ (by omega)]
  have y2 : Int.tmod (draw / 65536) (10000 : Int) = draw / 65536 % 10000 := Int.tmod_eq_emod_of_nonneg (by omega)
  have yq : 0 ≤ draw / 65536 % 10000 ∧ draw / 65536 % 10000 < 10000 := by omega
  have y3 : IntKind.wrap IntKind.i64 ((20000 : Int) + draw / 65536 % 10000) = 20000 + draw / 65536 % 10000 := w64 _ (by omega)
  have y4 : IntKind.wrap IntKind.i64 (draw / 65536 % 10000 + (1 : Int)) = draw / 65536 % 10000 + 1 := w64 _ (by omega)
  have y5 : Int.tmod (draw / 65536 % 10000 + 1) (10000 : Int) = (draw / 65536 % 10000 + 1) % 10000 := Int.tmod_eq_emod_of_nonneg (by omega)
  have y6 : IntKind.wrap IntKind.i64 ((20000 : Int) + (draw / 65536 % 10000 + 1) % 10000) = 20000 + (draw / 65536 % 10000 + 1) % 10000 := w64 _ (by omega)
  generalize draw / 65536 % 10000 = q at y2 yq y3 y4 y5 y6
  refine ⟨_, _, (outS_ok kN2_ok (askAnswers_ok n id other draw) ?_).1⟩
  repeat' (first | exact allNil | refine allCons ?_ ?_ | (with_reducible refine allRp _ ?_ ?_))
  all_goals ((try simp only [y1, y2, y3, y4, y5, y6]) <;> (first | exact True.intro | (with_reducible exact id) | (intros; with_reducible assumption) | omega | exact rfl | exact alike_self _ | (simp; done) | (simp; omega) | (simp (disch := first | omega | (simp; omega)) [str_toList, wu8, wu32, fd16, w64, u8rt, isB]; done) | (simp (disch := first | omega | (simp; omega)) [str_toList, wu8, wu32, fd16, w64, u8rt, isB]; omega)))
end Go.Proofs.Ytmilcpejchjleaa.askAnswers
