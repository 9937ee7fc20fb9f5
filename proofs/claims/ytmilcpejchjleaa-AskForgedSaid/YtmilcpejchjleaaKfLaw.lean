/- The law AskForged, walked: whatever is given, it answers true. -/
import Derived.Test.YtmilcpejchjleaaKfRun
import Derived.Test.YtmilcpejchjleaaWn
namespace Go.Proofs.Ytmilcpejchjleaa.askForged
open Go.RowKit

theorem apart0 : ∀ k : Nat, k < 101 → k ≠ 5 → (!alikeB [UInt8.ofNat (Int.toNat (IntKind.wrap IntKind.u8 (IntKind.wrap IntKind.i64 ((97 : Int) + bits BinOp.and IntKind.i64 (k : Int) (15 : Int))))), UInt8.ofNat (Int.toNat (IntKind.wrap IntKind.u8 (IntKind.wrap IntKind.i64 ((97 : Int) + bits BinOp.and IntKind.i64 (Int.fdiv (k : Int) (16 : Int)) (7 : Int)))))] [(102 : UInt8), (97 : UInt8)]) = true := by decide +kernel
theorem apart (n : Int) (h : 0 ≤ n ∧ n ≤ 100) (h5 : n ≠ 5) : (!alikeB [UInt8.ofNat (Int.toNat (IntKind.wrap IntKind.u8 (IntKind.wrap IntKind.i64 ((97 : Int) + bits BinOp.and IntKind.i64 n (15 : Int))))), UInt8.ofNat (Int.toNat (IntKind.wrap IntKind.u8 (IntKind.wrap IntKind.i64 ((97 : Int) + bits BinOp.and IntKind.i64 (Int.fdiv n (16 : Int)) (7 : Int)))))] [(102 : UInt8), (97 : UInt8)]) = true := by
  obtain ⟨k, rfl⟩ := Int.eq_ofNat_of_zero_le h.1
  exact apart0 k (by omega) (by omega)
theorem and127' (n : Int) (h : 0 ≤ n ∧ n ≤ 100) : bits BinOp.and IntKind.i64 n (127 : Int) = n := by
  rw [and127 n (by omega) (by omega)]; omega

set_option maxHeartbeats 4000000 in
set_option maxRecDepth 100000 in
theorem walk (draw port id n : Int) (hd : 0 ≤ draw ∧ draw < 4294967296) (hn : -9223372036854775808 ≤ n ∧ n ≤ 9223372036854775807) :
    ∃ L' nx', ACall Try.prog 8 [.val (.int .u32 draw), .val (.int .i64 port), .val (.int .i64 id), .val (.int .i64 n)] [] 0 (.val (.bool true)) L' nx' := by
  by_cases h1 : n < 0
  · refine ⟨_, _, (outT_ok kN2_ok (askForged_n1 draw port id n) ?_).1⟩
    repeat' (first | exact allNil | refine allCons ?_ ?_ | (with_reducible refine allRp _ ?_ ?_))
    all_goals first | exact True.intro | (with_reducible exact id) | (intros; with_reducible assumption) | omega | exact rfl | (simp; done) | (simp; omega) | (simp (disch := first | omega | (simp; omega)) [str_toList, wu8, wu32, fd16, w64, u8rt, isB]; done) | (simp (disch := first | omega | (simp; omega)) [str_toList, wu8, wu32, fd16, w64, u8rt, isB]; omega)
  by_cases h2 : 100 < n
  · refine ⟨_, _, (outT_ok kN2_ok (askForged_n2 draw port id n) ?_).1⟩
    repeat' (first | exact allNil | refine allCons ?_ ?_ | (with_reducible refine allRp _ ?_ ?_))
    all_goals first | exact True.intro | (with_reducible exact id) | (intros; with_reducible assumption) | omega | exact rfl | (simp; done) | (simp; omega) | (simp (disch := first | omega | (simp; omega)) [str_toList, wu8, wu32, fd16, w64, u8rt, isB]; done) | (simp (disch := first | omega | (simp; omega)) [str_toList, wu8, wu32, fd16, w64, u8rt, isB]; omega)
  have hn7 := and127' n (by omega)
  have y1 : IntKind.wrap IntKind.i64 (Int.fdiv draw (65536 : Int)) = draw / 65536 := by rw [fd65536, w64 _ (by omega)]
  have y2 : Int.tmod (draw / 65536) (10000 : Int) = draw / 65536 % 10000 := Int.tmod_eq_emod_of_nonneg (by omega)
  have yq : 0 ≤ draw / 65536 % 10000 ∧ draw / 65536 % 10000 < 10000 := by omega
  have y3 : IntKind.wrap IntKind.i64 ((20000 : Int) + draw / 65536 % 10000) = 20000 + draw / 65536 % 10000 := w64 _ (by omega)
  have y4 : IntKind.wrap IntKind.i64 (draw / 65536 % 10000 + (1 : Int)) = draw / 65536 % 10000 + 1 := w64 _ (by omega)
  have y5 : Int.tmod (draw / 65536 % 10000 + 1) (10000 : Int) = (draw / 65536 % 10000 + 1) % 10000 := Int.tmod_eq_emod_of_nonneg (by omega)
  have y6 : IntKind.wrap IntKind.i64 ((20000 : Int) + (draw / 65536 % 10000 + 1) % 10000) = 20000 + (draw / 65536 % 10000 + 1) % 10000 := w64 _ (by omega)
  generalize draw / 65536 % 10000 = q at y2 yq y3 y4 y5 y6
  by_cases hp : port = 20000 + q
  case neg =>
    refine ⟨_, _, (outS_ok kN2_ok (askForged_port draw port id n) ?_).1⟩
    repeat' (first | exact allNil | refine allCons ?_ ?_ | (with_reducible refine allRp _ ?_ ?_))
    all_goals ((try simp only [y1, y2, y3, y4, y5, y6]) <;> (first | exact True.intro | (with_reducible exact id) | (intros; with_reducible assumption) | omega | exact rfl | (simp; done) | (simp; omega) | (simp (disch := first | omega | (simp; omega)) [str_toList, wu8, wu32, fd16, w64, u8rt, isB]; done) | (simp (disch := first | omega | (simp; omega)) [str_toList, wu8, wu32, fd16, w64, u8rt, isB]; omega)))
  by_cases hi : id = IntKind.wrap IntKind.i64 (bits BinOp.and IntKind.u32 draw (65535 : Int))
  case neg =>
    refine ⟨_, _, (outS_ok kN2_ok (askForged_id draw port id n) ?_).1⟩
    repeat' (first | exact allNil | refine allCons ?_ ?_ | (with_reducible refine allRp _ ?_ ?_))
    all_goals ((try simp only [y1, y2, y3, y4, y5, y6]) <;> (first | exact True.intro | (with_reducible exact id) | (intros; with_reducible assumption) | omega | exact rfl | (simp; exact fun e => hi e.symm) | (simp; done) | (simp; omega) | (simp (disch := first | omega | (simp; omega)) [str_toList, wu8, wu32, fd16, w64, u8rt, isB]; done) | (simp (disch := first | omega | (simp; omega)) [str_toList, wu8, wu32, fd16, w64, u8rt, isB]; omega)))
  by_cases h5 : n = 5
  · have hb : (bits BinOp.and IntKind.i64 n (127 : Int) == (5 : Int)) = true := by rw [hn7, h5]; rfl
    refine ⟨_, _, (outT_ok kN2_ok (askForged_is draw port id n) ?_).1⟩
    repeat' (first | exact allNil | refine allCons ?_ ?_ | (with_reducible refine allRp _ ?_ ?_))
    all_goals ((try simp only [y1, y2, y3, y4, y5, y6]) <;> (first | exact True.intro | (with_reducible exact id) | (intros; with_reducible assumption) | omega | exact rfl | exact hb | (simp; done) | (simp; omega) | (simp (disch := first | omega | (simp; omega)) [str_toList, wu8, wu32, fd16, w64, u8rt, isB]; done) | (simp (disch := first | omega | (simp; omega)) [str_toList, wu8, wu32, fd16, w64, u8rt, isB]; omega)))
  have hb : (bits BinOp.and IntKind.i64 n (127 : Int) == (5 : Int)) = false := by rw [hn7]; simpa using h5
  refine ⟨_, _, (outS_ok kN2_ok (askForged_name draw port id n) ?_).1⟩
  repeat' (first | exact allNil | refine allCons ?_ ?_ | (with_reducible refine allRp _ ?_ ?_))
  all_goals ((try simp only [y1, y2, y3, y4, y5, y6]) <;> (first | exact True.intro | (with_reducible exact id) | (intros; with_reducible assumption) | omega | exact rfl | exact hb | exact apart n (by omega) h5 | (simp; done) | (simp; omega) | (simp (disch := first | omega | (simp; omega)) [str_toList, wu8, wu32, fd16, w64, u8rt, isB]; done) | (simp (disch := first | omega | (simp; omega)) [str_toList, wu8, wu32, fd16, w64, u8rt, isB]; omega)))
end Go.Proofs.Ytmilcpejchjleaa.askForged
