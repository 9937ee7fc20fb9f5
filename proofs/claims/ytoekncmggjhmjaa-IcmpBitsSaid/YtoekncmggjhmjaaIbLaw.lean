/- The law IcmpBits, walked: whatever is given, it answers true. -/
import Derived.Test.YtoekncmggjhmjaaIbRun
import Derived.Test.YtoekncmggjhmjaaIwLaw
import Derived.Test.YtoekncmggjhmjaaBit
namespace Go.Proofs.Ytoekncmggjhmjaa.icmpBits
open Go.RowKit

open icmpWrites
set_option maxHeartbeats 4000000 in
theorem walk (typ code rest : Int) (mb : List UInt8) (bit : Int) (hr : 0 ≤ rest ∧ rest < 4294967296) (hbit : -9223372036854775808 ≤ bit ∧ bit ≤ 9223372036854775807) :
    ∃ L' nx', ACall Try.prog 5 [.agg [.val (.int .i64 typ), .val (.int .i64 code), .val (.int .u32 rest), .bytes mb], .val (.int .i64 bit)] [] 0 (.val (.bool true)) L' nx' := by
  by_cases h1 : 500 < mb.length
  · refine ⟨_, _, (outT_ok k69_ok (icmpBits_big typ code rest mb bit) ?_).1⟩
    repeat' (first | exact allNil | refine allCons ?_ ?_)
    all_goals first | exact True.intro | (with_reducible exact id) | (intros; with_reducible assumption) | omega | (simp; done) | (simp; omega) | (simp (disch := first | omega | (simp; omega)) [str_toList, wu8, isB, lo8_raw, fd256, fd65536, fd16777216, w64, sameO_iff, lo8_mod, lo8_mod2, div_div, and_u32_65535, take_len]; done) | (simp (disch := first | omega | (simp; omega)) [str_toList, wu8, isB, lo8_raw, fd256, fd65536, fd16777216, w64, sameO_iff, lo8_mod, lo8_mod2, div_div, and_u32_65535, take_len]; omega)
  by_cases h4 : 0 ≤ typ ∧ typ ≤ 255
  case neg =>
    refine ⟨_, _, (outT_ok k69_ok (icmpBits_arg1 typ code rest mb bit) ?_).1⟩
    repeat' (first | exact allNil | refine allCons ?_ ?_)
    all_goals first | exact True.intro | (with_reducible exact id) | (intros; with_reducible assumption) | omega | (simp; done) | (simp; omega) | (simp (disch := first | omega | (simp; omega)) [str_toList, wu8, isB, lo8_raw, fd256, fd65536, fd16777216, w64, sameO_iff, lo8_mod, lo8_mod2, div_div, and_u32_65535, take_len]; done) | (simp (disch := first | omega | (simp; omega)) [str_toList, wu8, isB, lo8_raw, fd256, fd65536, fd16777216, w64, sameO_iff, lo8_mod, lo8_mod2, div_div, and_u32_65535, take_len]; omega)
  by_cases h5 : 0 ≤ code ∧ code ≤ 255
  case neg =>
    obtain ⟨h4, h4b⟩ := h4
    refine ⟨_, _, (outT_ok k69_ok (icmpBits_arg2 typ code rest mb bit) ?_).1⟩
    repeat' (first | exact allNil | refine allCons ?_ ?_)
    all_goals first | exact True.intro | (with_reducible exact id) | (intros; with_reducible assumption) | omega | (simp; done) | (simp; omega) | (simp (disch := first | omega | (simp; omega)) [str_toList, wu8, isB, lo8_raw, fd256, fd65536, fd16777216, w64, sameO_iff, lo8_mod, lo8_mod2, div_div, and_u32_65535, take_len]; done) | (simp (disch := first | omega | (simp; omega)) [str_toList, wu8, isB, lo8_raw, fd256, fd65536, fd16777216, w64, sameO_iff, lo8_mod, lo8_mod2, div_div, and_u32_65535, take_len]; omega)
  obtain ⟨h4, h4b⟩ := h4
  obtain ⟨h5, h5b⟩ := h5
  obtain ⟨ys, hys⟩ : ∃ ys, ys = icmpB typ code rest mb := ⟨_, rfl⟩
  have hl : ys.length = 8 + mb.length := by rw [hys]; exact icmpB_len typ code rest mb
  have hf : ofL ys = 0 := by rw [hys]; exact icmpB_fits typ code rest mb
  have ht : List.take (8 + mb.length) ys = ys := List.take_of_length_le (by omega)
  by_cases c1 : bit < 0
  · refine ⟨_, _, (outT_ok k69_ok (icmpBits_low typ code rest mb bit ys) ?_).1⟩
    repeat' (first | exact allNil | refine allCons ?_ ?_)
    all_goals first | exact True.intro | (with_reducible exact id) | (intros; with_reducible assumption) | omega | (simp (disch := first | omega | (simp; omega)) [wu8, lo8_raw, fd256, fd65536, fd16777216, w64, lo8_mod, lo8_mod2, div_div, and_u32_65535, take_len, hys, icmpB, icmpH, icmpS]; done) | (simp; done) | (simp; omega) | (simp (disch := first | omega | (simp; omega)) [str_toList, wu8, isB, lo8_raw, fd256, fd65536, fd16777216, w64, sameO_iff, lo8_mod, lo8_mod2, div_div, and_u32_65535, take_len, hl, ht]; done) | (simp (disch := first | omega | (simp; omega)) [str_toList, wu8, isB, lo8_raw, fd256, fd65536, fd16777216, w64, sameO_iff, lo8_mod, lo8_mod2, div_div, and_u32_65535, take_len, hl, ht]; omega)
  by_cases c2 : 8 * (8 + (mb.length : Int)) ≤ bit
  · refine ⟨_, _, (outT_ok k69_ok (icmpBits_high typ code rest mb bit ys) ?_).1⟩
    repeat' (first | exact allNil | refine allCons ?_ ?_)
    all_goals first | exact True.intro | (with_reducible exact id) | (intros; with_reducible assumption) | omega | (simp (disch := first | omega | (simp; omega)) [wu8, lo8_raw, fd256, fd65536, fd16777216, w64, lo8_mod, lo8_mod2, div_div, and_u32_65535, take_len, hys, icmpB, icmpH, icmpS]; done) | (simp; done) | (simp; omega) | (simp (disch := first | omega | (simp; omega)) [str_toList, wu8, isB, lo8_raw, fd256, fd65536, fd16777216, w64, sameO_iff, lo8_mod, lo8_mod2, div_div, and_u32_65535, take_len, hl, ht]; done) | (simp (disch := first | omega | (simp; omega)) [str_toList, wu8, isB, lo8_raw, fd256, fd65536, fd16777216, w64, sameO_iff, lo8_mod, lo8_mod2, div_div, and_u32_65535, take_len, hl, ht]; omega)
  have hq := bit_q bit (by omega) (by omega)
  have hj := bit_j bit (by omega) (by omega)
  obtain ⟨j, hj2⟩ : ∃ j, bit.toNat / 8 = j := ⟨_, rfl⟩
  have hjl : j < ys.length := by omega
  obtain ⟨zs, hzs⟩ : ∃ zs, List.set (List.take ((8 : Nat) + List.length mb) ys) ((0 : Nat) + Int.toNat (IntKind.wrap IntKind.i64 (Int.tdiv bit (8 : Int)))) (UInt8.ofNat (Int.toNat (bits BinOp.xor IntKind.u8 (↑(UInt8.toNat (List.getD (List.take ((8 : Nat) + List.length mb) ys) ((0 : Nat) + Int.toNat (IntKind.wrap IntKind.i64 (Int.tdiv bit (8 : Int)))) (0 : UInt8))) : Int) (IntKind.wrap IntKind.u8 ((1 : Int) * (2 : Int) ^ min (Int.toNat (IntKind.wrap IntKind.u64 (bits BinOp.and IntKind.i64 bit (7 : Int)))) (8 : Nat)))))) = zs := ⟨_, rfl⟩
  have hzz : zs = ys.set j (UInt8.ofNat (Int.toNat (bits BinOp.xor IntKind.u8 ((ys.getD j 0).toNat : Int) ((2 ^ (bit.toNat % 8) : Nat) : Int)))) := by
    rw [← hzs, hj, hj2, ht, bit_pow bit (by omega)]
  have hx := xor_turned (ys.getD j 0) (bit.toNat % 8) (by omega)
  have hg : ys[j]? = some (ys.getD j 0) := by rw [List.getD_eq_getElem?_getD, List.getElem?_eq_getElem hjl]; rfl
  have hbd := xor_bd ((ys.getD j 0).toNat : Int) ((2 ^ (bit.toNat % 8) : Nat) : Int)
  have hpow := bit_pow bit (by omega)
  have zl : zs.length = 8 + mb.length := by rw [hzz, List.length_set]; exact hl
  have zt : List.take (8 + mb.length) zs = zs := List.take_of_length_le (by omega)
  have zs0 : ¬ ofL zs = 0 := by
    rw [hzz]
    exact ofL_turned ys j _ _ hg hx hf
  refine ⟨_, _, (outT_ok k69_ok (icmpBits_ok typ code rest mb bit ys) ?_).1⟩
  repeat' (first | exact allNil | refine allCons ?_ ?_)
  all_goals ((try simp only [hzs]) <;> (first | exact True.intro | (with_reducible exact id) | (intros; with_reducible assumption) | omega | (simp (disch := first | omega | (simp; omega)) [wu8, lo8_raw, fd256, fd65536, fd16777216, w64, lo8_mod, lo8_mod2, div_div, and_u32_65535, take_len, hys, icmpB, icmpH, icmpS]; done) | (rw [hj, hj2, ht, hpow]; exact hbd) | exact wrap_u64_nonneg _ | (simp only [hj, hj2, ht, hl]; omega) | (simp; done) | (simp; omega) | (simp (disch := first | omega | (simp; omega)) [str_toList, wu8, isB, lo8_raw, fd256, fd65536, fd16777216, w64, sameO_iff, lo8_mod, lo8_mod2, div_div, and_u32_65535, take_len, hl, ht, hq, zl, zt, zs0]; done) | (simp (disch := first | omega | (simp; omega)) [str_toList, wu8, isB, lo8_raw, fd256, fd65536, fd16777216, w64, sameO_iff, lo8_mod, lo8_mod2, div_div, and_u32_65535, take_len, hl, ht, hq, zl, zt, zs0]; omega)))
end Go.Proofs.Ytoekncmggjhmjaa.icmpBits
