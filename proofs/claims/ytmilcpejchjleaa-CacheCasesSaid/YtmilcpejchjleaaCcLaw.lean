/- The law CacheCases, walked: whatever is given, it answers true. -/
import Derived.Test.YtmilcpejchjleaaCcRun
import Derived.Test.YtmilcpejchjleaaWn
namespace Go.Proofs.Ytmilcpejchjleaa.cacheCases
open Go.RowKit

set_option maxHeartbeats 4000000 in
set_option maxRecDepth 100000 in
theorem walk (n typ cls : Int) (hn : -9223372036854775808 ≤ n ∧ n ≤ 9223372036854775807) :
    ∃ L' nx', ACall Try.prog 5 [.val (.int .i64 n), .val (.int .i64 typ), .val (.int .i64 cls)] [] 0 (.val (.bool true)) L' nx' := by
  by_cases h1 : n < 0
  · refine ⟨_, _, (outT_ok kN_ok (cacheCases_low n typ cls) ?_).1⟩
    repeat' (first | exact allNil | refine allCons ?_ ?_ | (with_reducible refine allRp _ ?_ ?_))
    all_goals first | exact True.intro | (with_reducible exact id) | (intros; with_reducible assumption) | omega | (simp; done) | (simp; omega) | (simp (disch := first | omega | (simp; omega)) [str_toList, wu8, wu32, fd16, w64, u8rt, and15, and7, isB]; done) | (simp (disch := first | omega | (simp; omega)) [str_toList, wu8, wu32, fd16, w64, u8rt, and15, and7, isB]; omega)
  by_cases h2 : 100 < n
  · refine ⟨_, _, (outT_ok kN_ok (cacheCases_high n typ cls) ?_).1⟩
    repeat' (first | exact allNil | refine allCons ?_ ?_ | (with_reducible refine allRp _ ?_ ?_))
    all_goals first | exact True.intro | (with_reducible exact id) | (intros; with_reducible assumption) | omega | (simp; done) | (simp; omega) | (simp (disch := first | omega | (simp; omega)) [str_toList, wu8, wu32, fd16, w64, u8rt, and15, and7, isB]; done) | (simp (disch := first | omega | (simp; omega)) [str_toList, wu8, wu32, fd16, w64, u8rt, and15, and7, isB]; omega)
  have a15 : bits BinOp.and IntKind.i64 n (15 : Int) = n % 16 := and15 n (by omega) (by omega)
  have f16 : Int.fdiv n (16 : Int) = n / 16 := fd16 n
  have a7 : bits BinOp.and IntKind.i64 (n / 16) (7 : Int) = n / 16 % 8 := and7 _ (by omega) (by omega)
  have w0 : IntKind.wrap IntKind.i64 ((97 : Int) + n % 16) = 97 + n % 16 := w64 _ (by omega)
  have w1 : IntKind.wrap IntKind.i64 ((97 : Int) + n / 16 % 8) = 97 + n / 16 % 8 := w64 _ (by omega)
  have u0 : IntKind.wrap IntKind.u8 ((97 : Int) + n % 16) = (97 + n % 16) % 256 := wu8 _
  have u1 : IntKind.wrap IntKind.u8 ((97 : Int) + n / 16 % 8) = (97 + n / 16 % 8) % 256 := wu8 _
  by_cases h3 : typ = 1
  case neg =>
    refine ⟨_, _, (outS_ok kN_ok (cacheCases_typ n typ cls) ?_).1⟩
    repeat' (first | exact allNil | refine allCons ?_ ?_ | (with_reducible refine allRp _ ?_ ?_))
    all_goals ((try simp only [a15, f16, a7, w0, w1, wu8, u8rt]) <;> (first | exact True.intro | (with_reducible exact id) | (intros; with_reducible assumption) | omega | exact rfl | (refine mem_two ?_ ?_ <;> (simp only [isB]; omega)) | (refine mem_four ?_ ?_ ?_ ?_ <;> (simp only [isB]; omega)) | (simp; done) | (simp; omega) | (simp (disch := first | omega | (simp; omega)) [str_toList, wu8, wu32, fd16, w64, u8rt, and15, and7, isB]; done) | (simp (disch := first | omega | (simp; omega)) [str_toList, wu8, wu32, fd16, w64, u8rt, and15, and7, isB]; omega)))
  by_cases h4 : cls = 1
  case neg =>
    refine ⟨_, _, ((outS_ok kN_ok (cacheCases_cls n typ cls) ?_).1).truly ?_⟩
    · repeat' (first | exact allNil | refine allCons ?_ ?_ | (with_reducible refine allRp _ ?_ ?_))
      all_goals ((try simp only [a15, f16, a7, w0, w1, wu8, u8rt]) <;> (first | exact True.intro | (with_reducible exact id) | (intros; with_reducible assumption) | omega | exact rfl | (refine mem_two ?_ ?_ <;> (simp only [isB]; omega)) | (refine mem_four ?_ ?_ ?_ ?_ <;> (simp only [isB]; omega)) | (simp; done) | (simp; omega) | (simp (disch := first | omega | (simp; omega)) [str_toList, wu8, wu32, fd16, w64, u8rt, and15, and7, isB]; done) | (simp (disch := first | omega | (simp; omega)) [str_toList, wu8, wu32, fd16, w64, u8rt, and15, and7, isB]; omega)))
    · simp [h4]
  refine ⟨_, _, ((outS_ok kN_ok (cacheCases_same n typ cls) ?_).1).truly ?_⟩
  · repeat' (first | exact allNil | refine allCons ?_ ?_ | (with_reducible refine allRp _ ?_ ?_))
    all_goals ((try simp only [a15, f16, a7, w0, w1, wu8, u8rt]) <;> (first | exact True.intro | (with_reducible exact id) | (intros; with_reducible assumption) | omega | exact rfl | (refine mem_two ?_ ?_ <;> (simp only [isB]; omega)) | (refine mem_four ?_ ?_ ?_ ?_ <;> (simp only [isB]; omega)) | (simp; done) | (simp; omega) | (simp (disch := first | omega | (simp; omega)) [str_toList, wu8, wu32, fd16, w64, u8rt, and15, and7, isB]; done) | (simp (disch := first | omega | (simp; omega)) [str_toList, wu8, wu32, fd16, w64, u8rt, and15, and7, isB]; omega)))
  · simp [h4]
end Go.Proofs.Ytmilcpejchjleaa.cacheCases
