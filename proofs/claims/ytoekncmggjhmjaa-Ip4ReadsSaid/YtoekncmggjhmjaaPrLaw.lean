/- The law Ip4Reads, walked: whatever is given, it answers true. -/
import Derived.Test.YtoekncmggjhmjaaPrRun
import Derived.Test.YtoekncmggjhmjaaPrRunb
import Derived.Test.YtoekncmggjhmjaaTurn
namespace Go.Proofs.Ytoekncmggjhmjaa.ip4Reads
open Go.RowKit

set_option maxHeartbeats 4000000 in
theorem walk (b : List UInt8) :
    ∃ L' nx', ACall Try.prog 17 [.bytes b] [] 0 (.val (.bool true)) L' nx' := by
  by_cases h1 : 1700 < b.length
  · refine ⟨_, _, (outT_ok k6_ok (ip4Reads_big b) ?_).1⟩
    repeat' (first | exact allNil | refine allCons ?_ ?_)
    all_goals first | exact True.intro | (with_reducible exact id) | (intros; with_reducible assumption) | omega | (simp; done) | (simp; omega) | (simp (disch := first | omega | (simp; omega)) [str_toList, wu8, isB, lo8_raw, fd256, fd65536, fd16777216, w64, sameO_iff, lo8_mod, lo8_mod2, div_div, and_u32_65535, take_len]; done) | (simp (disch := first | omega | (simp; omega)) [str_toList, wu8, isB, lo8_raw, fd256, fd65536, fd16777216, w64, sameO_iff, lo8_mod, lo8_mod2, div_div, and_u32_65535, take_len]; omega)
  by_cases h2 : b.length < 20
  · refine ⟨_, _, (outT_ok k6_ok (ip4Reads_short b) ?_).1⟩
    repeat' (first | exact allNil | refine allCons ?_ ?_)
    all_goals first | exact True.intro | (with_reducible exact id) | (intros; with_reducible assumption) | omega | (simp; done) | (simp; omega) | (simp (disch := first | omega | (simp; omega)) [str_toList, wu8, isB, lo8_raw, fd256, fd65536, fd16777216, w64, sameO_iff, lo8_mod, lo8_mod2, div_div, and_u32_65535, take_len]; done) | (simp (disch := first | omega | (simp; omega)) [str_toList, wu8, isB, lo8_raw, fd256, fd65536, fd16777216, w64, sameO_iff, lo8_mod, lo8_mod2, div_div, and_u32_65535, take_len]; omega)
  obtain ⟨n, hn⟩ : ∃ n : Nat, n = at16 b 2 := ⟨_, rfl⟩
  have p2 : bits BinOp.or IntKind.i64 (IntKind.wrap IntKind.i64 (IntKind.wrap IntKind.i64 (↑(UInt8.toNat (List.getD b (2 : Nat) (0 : UInt8))) : Int) * (256 : Int))) (IntKind.wrap IntKind.i64 (↑(UInt8.toNat (List.getD b (3 : Nat) (0 : UInt8))) : Int)) = (n : Int) := by rw [hn]; exact pair_raw_at b 2 (by omega)
  have p10 : bits BinOp.or IntKind.i64 (IntKind.wrap IntKind.i64 (IntKind.wrap IntKind.i64 (↑(UInt8.toNat (List.getD b (10 : Nat) (0 : UInt8))) : Int) * (256 : Int))) (IntKind.wrap IntKind.i64 (↑(UInt8.toNat (List.getD b (11 : Nat) (0 : UInt8))) : Int)) = ((at16 b 10 : Nat) : Int) := pair_raw_at b 10 (by omega)
  obtain ⟨h, hh⟩ : ∃ h : Nat, h = (List.getD b 0 0).toNat % 16 * 4 := ⟨_, rfl⟩
  have ph : IntKind.wrap IntKind.i64 (IntKind.wrap IntKind.i64 (bits BinOp.and IntKind.u8 (↑(UInt8.toNat (List.getD b (0 : Nat) (0 : UInt8))) : Int) (15 : Int)) * (4 : Int)) = (h : Int) := by rw [hh]; exact head_raw _
  have hlt : h ≤ 60 := by omega
  have nlt : n ≤ 65535 := by rw [hn]; exact at16_lt b 2
  obtain ⟨v, hv⟩ : ∃ v : Nat, v = (List.getD b 0 0).toNat := ⟨_, rfl⟩
  have pv : Int.fdiv (↑(UInt8.toNat (List.getD b (0 : Nat) (0 : UInt8))) : Int) (16 : Int) = ((v / 16 : Nat) : Int) := by rw [fd16, hv]; omega
  by_cases h3 : ¬ v / 16 = 4 ∨ h < 20
  · refine ⟨_, _, (outT_ok k6_ok (ip4Reads_form b) ?_).1⟩
    repeat' (first | exact allNil | refine allCons ?_ ?_)
    all_goals ((try simp only [ph, pv]) <;> (first | exact True.intro | (with_reducible exact id) | (intros; with_reducible assumption) | omega | (simp; done) | (simp; omega) | (simp (disch := first | omega | (simp; omega)) [str_toList, wu8, isB, lo8_raw, fd256, fd65536, fd16777216, w64, sameO_iff, lo8_mod, lo8_mod2, div_div, and_u32_65535, take_len]; done) | (simp (disch := first | omega | (simp; omega)) [str_toList, wu8, isB, lo8_raw, fd256, fd65536, fd16777216, w64, sameO_iff, lo8_mod, lo8_mod2, div_div, and_u32_65535, take_len]; omega)))
  by_cases h4 : b.length < h
  · refine ⟨_, _, (outT_ok k6_ok (ip4Reads_long b) ?_).1⟩
    repeat' (first | exact allNil | refine allCons ?_ ?_)
    all_goals ((try simp only [ph, pv]) <;> (first | exact True.intro | (with_reducible exact id) | (intros; with_reducible assumption) | omega | (simp; done) | (simp; omega) | (simp (disch := first | omega | (simp; omega)) [str_toList, wu8, isB, lo8_raw, fd256, fd65536, fd16777216, w64, sameO_iff, lo8_mod, lo8_mod2, div_div, and_u32_65535, take_len]; done) | (simp (disch := first | omega | (simp; omega)) [str_toList, wu8, isB, lo8_raw, fd256, fd65536, fd16777216, w64, sameO_iff, lo8_mod, lo8_mod2, div_div, and_u32_65535, take_len]; omega)))
  by_cases h5 : ofL (List.take h b) = 0
  case neg =>
    refine ⟨_, _, (outT_ok k6_ok (ip4Reads_sum b) ?_).1⟩
    repeat' (first | exact allNil | refine allCons ?_ ?_)
    all_goals ((try simp only [ph, pv]) <;> (first | exact True.intro | (with_reducible exact id) | (intros; with_reducible assumption) | omega | (simp; done) | (simp; omega) | (simp (disch := first | omega | (simp; omega)) [str_toList, wu8, isB, lo8_raw, fd256, fd65536, fd16777216, w64, sameO_iff, lo8_mod, lo8_mod2, div_div, and_u32_65535, take_len, h5]; done) | (simp (disch := first | omega | (simp; omega)) [str_toList, wu8, isB, lo8_raw, fd256, fd65536, fd16777216, w64, sameO_iff, lo8_mod, lo8_mod2, div_div, and_u32_65535, take_len, h5]; omega)))
  by_cases h6 : n < h
  · refine ⟨_, _, (outT_ok k6_ok (ip4Reads_form2 b) ?_).1⟩
    repeat' (first | exact allNil | refine allCons ?_ ?_)
    all_goals ((try simp only [p2, ph, pv, ← hn]) <;> (first | exact True.intro | (with_reducible exact id) | (intros; with_reducible assumption) | omega | (simp; done) | (simp; omega) | (simp (disch := first | omega | (simp; omega)) [str_toList, wu8, isB, lo8_raw, fd256, fd65536, fd16777216, w64, sameO_iff, lo8_mod, lo8_mod2, div_div, and_u32_65535, take_len, h5]; done) | (simp (disch := first | omega | (simp; omega)) [str_toList, wu8, isB, lo8_raw, fd256, fd65536, fd16777216, w64, sameO_iff, lo8_mod, lo8_mod2, div_div, and_u32_65535, take_len, h5]; omega)))
  by_cases h7 : b.length < n
  · refine ⟨_, _, (outT_ok k6_ok (ip4Reads_long2 b) ?_).1⟩
    repeat' (first | exact allNil | refine allCons ?_ ?_)
    all_goals ((try simp only [p2, ph, pv, ← hn]) <;> (first | exact True.intro | (with_reducible exact id) | (intros; with_reducible assumption) | omega | (simp; done) | (simp; omega) | (simp (disch := first | omega | (simp; omega)) [str_toList, wu8, isB, lo8_raw, fd256, fd65536, fd16777216, w64, sameO_iff, lo8_mod, lo8_mod2, div_div, and_u32_65535, take_len, h5]; done) | (simp (disch := first | omega | (simp; omega)) [str_toList, wu8, isB, lo8_raw, fd256, fd65536, fd16777216, w64, sameO_iff, lo8_mod, lo8_mod2, div_div, and_u32_65535, take_len, h5]; omega)))
  have t8 := (List.getD b 8 0).toNat_lt
  have n1 : 1 < n := by omega
  have n2 : 2 < n := by omega
  have n3 : 3 < n := by omega
  have n4 : 4 < n := by omega
  have n5 : 5 < n := by omega
  have n6 : 6 < n := by omega
  have n7 : 7 < n := by omega
  have n8 : 8 < n := by omega
  have n9 : 9 < n := by omega
  have n10 : 10 < n := by omega
  have n11 : 11 < n := by omega
  have hz : Int.toNat ((h : Int) - 20) = h - 20 := by omega
  have e1 : List.take (h - 20) (List.drop 20 (List.take n b)) = List.drop 20 (List.take h b) := by
    rw [List.drop_take, List.drop_take, List.take_take, Nat.min_eq_left (by omega)]
  have e2 : 20 + (h - 20) = h := by omega
  by_cases h8 : (List.getD b 8 0).toNat ≤ 1
  · refine ⟨_, _, (outT_ok k6_ok (ip4Reads_deny b) ?_).1⟩
    repeat' (first | exact allNil | refine allCons ?_ ?_)
    all_goals ((try simp only [p2, ph, pv, ← hn]) <;> (first | exact True.intro | (with_reducible exact id) | (intros; with_reducible assumption) | omega | (simp only [wrap64_u8, decide_eq_true_eq, decide_eq_false_iff_not]; omega) | (simp only [decide_eq_false_iff_not]; omega) | (simp; done) | (simp; omega) | (simp (disch := first | omega | (simp; omega)) [wu8, fd256, fd65536, fd16777216, w64, sameO_iff, take_len, wrap64_u8, fd8192, at16_take, at32_take, at8_take, at32_d0, at32_d1, at32_d2, at32_d3, hz, e1, e2]; done) | (simp (disch := first | omega | (simp; omega)) [w64, hz, e2]; omega)))
  refine ⟨_, _, ((outT_ok k6_ok (ip4Reads_ok b) ?_).1).truly ?_⟩
  · repeat' (first | exact allNil | refine allCons ?_ ?_)
    all_goals ((try simp only [p2, p10, ph, pv, ← hn]) <;> (first | exact True.intro | (with_reducible exact id) | (intros; with_reducible assumption) | omega | (simp only [wrap64_u8, decide_eq_false_iff_not]; omega) | (simp only [decide_eq_false_iff_not]; omega) | (simp; done) | (simp; omega) | (simp (disch := first | omega | (simp; omega)) [wu8, isB, lo8_raw, fd256, fd65536, fd16777216, w64, sameO_iff, take_len, wrap64_u8, fd8192, at16_take, at32_take, at8_take, at32_d0, at32_d1, at32_d2, at32_d3, hz, e1, e2]; done) | (simp (disch := first | omega | (simp; omega)) [wu8, isB, lo8_raw, fd256, w64, hz, e2]; omega)))
  · simp only [p2, p10, ← hn]; simp (disch := first | omega | (simp; omega)) [wu8, lo8_raw, fd256, take_len]
end Go.Proofs.Ytoekncmggjhmjaa.ip4Reads
