/- The law TcpBits, walked: whatever is given, it answers true. -/
import Derived.Test.YtoekncmggjhmjaaTbRun
import Derived.Test.YtoekncmggjhmjaaTbRunb
import Derived.Test.YtoekncmggjhmjaaTcpB
namespace Go.Proofs.Ytoekncmggjhmjaa.tcpBits
open Go.RowKit

set_option maxHeartbeats 4000000 in
theorem walk (fr tp seq ack fl win urg : Int) (so sb : List UInt8) (bit : Int) (hseq : 0 ≤ seq ∧ seq < 4294967296) (hack : 0 ≤ ack ∧ ack < 4294967296) (hbit : -9223372036854775808 ≤ bit ∧ bit ≤ 9223372036854775807) :
    ∃ L' nx', ACall Try.prog 15 [.agg [.val (.int .i64 fr), .val (.int .i64 tp), .val (.int .u32 seq), .val (.int .u32 ack), .val (.int .i64 fl), .val (.int .i64 win), .val (.int .i64 urg), .bytes so, .bytes sb], .val (.int .i64 bit)] [] 0 (.val (.bool true)) L' nx' := by
  by_cases h1 : 500 < sb.length
  · refine ⟨_, _, (outT_ok k69_ok (tcpBits_big fr tp seq ack fl win urg so sb bit) ?_).1⟩
    repeat' (first | exact allNil | refine allCons ?_ ?_)
    all_goals first | exact True.intro | (with_reducible exact id) | (intros; with_reducible assumption) | omega | (simp; done) | (simp; omega) | (simp (disch := first | omega | (simp; omega)) [str_toList, wu8, isB, lo8_raw, fd256, fd65536, fd16777216, w64, sameO_iff, lo8_mod, lo8_mod2, div_div, and_u32_65535, take_len]; done) | (simp (disch := first | omega | (simp; omega)) [str_toList, wu8, isB, lo8_raw, fd256, fd65536, fd16777216, w64, sameO_iff, lo8_mod, lo8_mod2, div_div, and_u32_65535, take_len]; omega)
  by_cases g0 : 0 ≤ fr ∧ fr ≤ 65535
  case neg =>
    refine ⟨_, _, (outT_ok k69_ok (tcpBits_arg1 fr tp seq ack fl win urg so sb bit) ?_).1⟩
    repeat' (first | exact allNil | refine allCons ?_ ?_)
    all_goals first | exact True.intro | (with_reducible exact id) | (intros; with_reducible assumption) | omega | (simp; done) | (simp; omega) | (simp (disch := first | omega | (simp; omega)) [str_toList, wu8, isB, lo8_raw, fd256, fd65536, fd16777216, w64, sameO_iff, lo8_mod, lo8_mod2, div_div, and_u32_65535, take_len]; done) | (simp (disch := first | omega | (simp; omega)) [str_toList, wu8, isB, lo8_raw, fd256, fd65536, fd16777216, w64, sameO_iff, lo8_mod, lo8_mod2, div_div, and_u32_65535, take_len]; omega)
  obtain ⟨g0, g0b⟩ := g0
  by_cases g1 : 0 ≤ tp ∧ tp ≤ 65535
  case neg =>
    refine ⟨_, _, (outT_ok k69_ok (tcpBits_arg2 fr tp seq ack fl win urg so sb bit) ?_).1⟩
    repeat' (first | exact allNil | refine allCons ?_ ?_)
    all_goals first | exact True.intro | (with_reducible exact id) | (intros; with_reducible assumption) | omega | (simp; done) | (simp; omega) | (simp (disch := first | omega | (simp; omega)) [str_toList, wu8, isB, lo8_raw, fd256, fd65536, fd16777216, w64, sameO_iff, lo8_mod, lo8_mod2, div_div, and_u32_65535, take_len]; done) | (simp (disch := first | omega | (simp; omega)) [str_toList, wu8, isB, lo8_raw, fd256, fd65536, fd16777216, w64, sameO_iff, lo8_mod, lo8_mod2, div_div, and_u32_65535, take_len]; omega)
  obtain ⟨g1, g1b⟩ := g1
  by_cases g2 : 0 ≤ fl ∧ fl ≤ 63
  case neg =>
    refine ⟨_, _, (outT_ok k69_ok (tcpBits_arg3 fr tp seq ack fl win urg so sb bit) ?_).1⟩
    repeat' (first | exact allNil | refine allCons ?_ ?_)
    all_goals first | exact True.intro | (with_reducible exact id) | (intros; with_reducible assumption) | omega | (simp; done) | (simp; omega) | (simp (disch := first | omega | (simp; omega)) [str_toList, wu8, isB, lo8_raw, fd256, fd65536, fd16777216, w64, sameO_iff, lo8_mod, lo8_mod2, div_div, and_u32_65535, take_len]; done) | (simp (disch := first | omega | (simp; omega)) [str_toList, wu8, isB, lo8_raw, fd256, fd65536, fd16777216, w64, sameO_iff, lo8_mod, lo8_mod2, div_div, and_u32_65535, take_len]; omega)
  obtain ⟨g2, g2b⟩ := g2
  by_cases g3 : 0 ≤ win ∧ win ≤ 65535
  case neg =>
    refine ⟨_, _, (outT_ok k69_ok (tcpBits_arg4 fr tp seq ack fl win urg so sb bit) ?_).1⟩
    repeat' (first | exact allNil | refine allCons ?_ ?_)
    all_goals first | exact True.intro | (with_reducible exact id) | (intros; with_reducible assumption) | omega | (simp; done) | (simp; omega) | (simp (disch := first | omega | (simp; omega)) [str_toList, wu8, isB, lo8_raw, fd256, fd65536, fd16777216, w64, sameO_iff, lo8_mod, lo8_mod2, div_div, and_u32_65535, take_len]; done) | (simp (disch := first | omega | (simp; omega)) [str_toList, wu8, isB, lo8_raw, fd256, fd65536, fd16777216, w64, sameO_iff, lo8_mod, lo8_mod2, div_div, and_u32_65535, take_len]; omega)
  obtain ⟨g3, g3b⟩ := g3
  by_cases g4 : 0 ≤ urg ∧ urg ≤ 65535
  case neg =>
    refine ⟨_, _, (outT_ok k69_ok (tcpBits_arg5 fr tp seq ack fl win urg so sb bit) ?_).1⟩
    repeat' (first | exact allNil | refine allCons ?_ ?_)
    all_goals first | exact True.intro | (with_reducible exact id) | (intros; with_reducible assumption) | omega | (simp; done) | (simp; omega) | (simp (disch := first | omega | (simp; omega)) [str_toList, wu8, isB, lo8_raw, fd256, fd65536, fd16777216, w64, sameO_iff, lo8_mod, lo8_mod2, div_div, and_u32_65535, take_len]; done) | (simp (disch := first | omega | (simp; omega)) [str_toList, wu8, isB, lo8_raw, fd256, fd65536, fd16777216, w64, sameO_iff, lo8_mod, lo8_mod2, div_div, and_u32_65535, take_len]; omega)
  obtain ⟨g4, g4b⟩ := g4
  by_cases g5 : 40 < so.length
  · refine ⟨_, _, (outT_ok k69_ok (tcpBits_arg6 fr tp seq ack fl win urg so sb bit) ?_).1⟩
    repeat' (first | exact allNil | refine allCons ?_ ?_)
    all_goals first | exact True.intro | (with_reducible exact id) | (intros; with_reducible assumption) | omega | (simp; done) | (simp; omega) | (simp (disch := first | omega | (simp; omega)) [str_toList, wu8, isB, lo8_raw, fd256, fd65536, fd16777216, w64, sameO_iff, lo8_mod, lo8_mod2, div_div, and_u32_65535, take_len]; done) | (simp (disch := first | omega | (simp; omega)) [str_toList, wu8, isB, lo8_raw, fd256, fd65536, fd16777216, w64, sameO_iff, lo8_mod, lo8_mod2, div_div, and_u32_65535, take_len]; omega)
  by_cases g6 : so.length % 4 = 0
  case neg =>
    have g6i : ¬ Int.tmod (so.length : Int) 4 = 0 := by rw [Int.tmod_eq_emod_of_nonneg (by omega)]; omega
    have hw := w64 (Int.tmod (so.length : Int) 4) (by rw [Int.tmod_eq_emod_of_nonneg (by omega)]; omega)
    refine ⟨_, _, (outT_ok k69_ok (tcpBits_arg7 fr tp seq ack fl win urg so sb bit) ?_).1⟩
    repeat' (first | exact allNil | refine allCons ?_ ?_)
    all_goals first | exact True.intro | (with_reducible exact id) | (intros; with_reducible assumption) | omega | (simp; done) | (simp; omega) | (simp (disch := first | omega | (simp; omega)) [str_toList, wu8, isB, lo8_raw, fd256, fd65536, fd16777216, w64, sameO_iff, lo8_mod, lo8_mod2, div_div, and_u32_65535, take_len, g6i, hw]; done) | (simp (disch := first | omega | (simp; omega)) [str_toList, wu8, isB, lo8_raw, fd256, fd65536, fd16777216, w64, sameO_iff, lo8_mod, lo8_mod2, div_div, and_u32_65535, take_len, g6i, hw]; omega)
  have g6i : Int.tmod (so.length : Int) 4 = 0 := by rw [Int.tmod_eq_emod_of_nonneg (by omega)]; omega
  obtain ⟨ys, hys⟩ : ∃ ys, ys = tcpH fr tp seq ack fl win urg so sb (lo8 ((ofL ((10 : UInt8) :: (0 : UInt8) :: (0 : UInt8) :: (1 : UInt8) :: (10 : UInt8) :: (0 : UInt8) :: (0 : UInt8) :: (2 : UInt8) :: (0 : UInt8) :: (6 : UInt8) :: lo8 ((20 + (so.length : Int) + (sb.length : Int)) / 256) :: lo8 (20 + (so.length : Int) + (sb.length : Int)) :: tcpH fr tp seq ack fl win urg so sb 0 0) : Nat) / 256)) (lo8 (ofL ((10 : UInt8) :: (0 : UInt8) :: (0 : UInt8) :: (1 : UInt8) :: (10 : UInt8) :: (0 : UInt8) :: (0 : UInt8) :: (2 : UInt8) :: (0 : UInt8) :: (6 : UInt8) :: lo8 ((20 + (so.length : Int) + (sb.length : Int)) / 256) :: lo8 (20 + (so.length : Int) + (sb.length : Int)) :: tcpH fr tp seq ack fl win urg so sb 0 0) : Nat)) := ⟨_, rfl⟩
  have hl : ys.length = 20 + so.length + sb.length := by rw [hys]; exact tcpH_len ..
  have ht : List.take (20 + so.length + sb.length) ys = ys := List.take_of_length_le (by omega)
  have hs : ofL ((10 : UInt8) :: (0 : UInt8) :: (0 : UInt8) :: (1 : UInt8) :: (10 : UInt8) :: (0 : UInt8) :: (0 : UInt8) :: (2 : UInt8) :: (0 : UInt8) :: (6 : UInt8) :: lo8 ((20 + (so.length : Int) + (sb.length : Int)) / 256) :: lo8 (20 + (so.length : Int) + (sb.length : Int)) :: ys) = 0 := by
    rw [hys]
    exact tcpH_sum _ _ _ _ _ _ _ _ _ _ _ _ _ _ _ _ _ _ _ _ _ _ _ (put_sum _ (ofL_le _))
  have hB1 := head_byte so (by omega) g6
  by_cases c1 : bit < 0
  · refine ⟨_, _, (outT_ok k69_ok (tcpBits_low fr tp seq ack fl win urg so sb bit ys) ?_).1⟩
    repeat' (first | exact allNil | refine allCons ?_ ?_)
    all_goals ((try simp only [hB1]) <;> (first | exact True.intro | (with_reducible exact id) | (intros; with_reducible assumption) | omega | (simp (disch := first | omega | (simp; omega)) [wu8, lo8_raw, fd256, fd65536, fd16777216, w64, take_len, hys, tcpH]; done) | (simp; done) | (simp; omega) | (simp (disch := first | omega | (simp; omega)) [wu8, isB, lo8_raw, fd256, fd65536, fd16777216, w64, sameO_iff, take_len]; done) | (simp (disch := first | omega | (simp; omega)) [wu8, isB, lo8_raw, fd256, fd65536, fd16777216, w64, take_len]; omega)))
  by_cases c2 : 8 * (20 + (so.length : Int) + (sb.length : Int)) ≤ bit
  · refine ⟨_, _, (outT_ok k69_ok (tcpBits_high fr tp seq ack fl win urg so sb bit ys) ?_).1⟩
    repeat' (first | exact allNil | refine allCons ?_ ?_)
    all_goals ((try simp only [hB1]) <;> (first | exact True.intro | (with_reducible exact id) | (intros; with_reducible assumption) | omega | (simp (disch := first | omega | (simp; omega)) [wu8, lo8_raw, fd256, fd65536, fd16777216, w64, take_len, hys, tcpH]; done) | (simp; done) | (simp; omega) | (simp (disch := first | omega | (simp; omega)) [wu8, isB, lo8_raw, fd256, fd65536, fd16777216, w64, sameO_iff, take_len]; done) | (simp (disch := first | omega | (simp; omega)) [wu8, isB, lo8_raw, fd256, fd65536, fd16777216, w64, take_len]; omega)))
  have hq := bit_q bit (by omega) (by omega)
  have hj := bit_j bit (by omega) (by omega)
  obtain ⟨j, hj2⟩ : ∃ j, bit.toNat / 8 = j := ⟨_, rfl⟩
  have hjl : j < ys.length := by omega
  obtain ⟨zs, hzs⟩ : ∃ zs, List.set (List.take ((20 : Nat) + List.length so + List.length sb) ys) ((0 : Nat) + Int.toNat (IntKind.wrap IntKind.i64 (Int.tdiv bit (8 : Int)))) (UInt8.ofNat (Int.toNat (bits BinOp.xor IntKind.u8 (↑(UInt8.toNat (List.getD (List.take ((20 : Nat) + List.length so + List.length sb) ys) ((0 : Nat) + Int.toNat (IntKind.wrap IntKind.i64 (Int.tdiv bit (8 : Int)))) (0 : UInt8))) : Int) (IntKind.wrap IntKind.u8 ((1 : Int) * (2 : Int) ^ min (Int.toNat (IntKind.wrap IntKind.u64 (bits BinOp.and IntKind.i64 bit (7 : Int)))) (8 : Nat)))))) = zs := ⟨_, rfl⟩
  have hzz : zs = ys.set j (UInt8.ofNat (Int.toNat (bits BinOp.xor IntKind.u8 ((ys.getD j 0).toNat : Int) ((2 ^ (bit.toNat % 8) : Nat) : Int)))) := by
    rw [← hzs, hj, hj2, ht, bit_pow bit (by omega)]
  have hx := xor_turned (ys.getD j 0) (bit.toNat % 8) (by omega)
  have hg : ys[j]? = some (ys.getD j 0) := by rw [List.getD_eq_getElem?_getD, List.getElem?_eq_getElem hjl]; rfl
  have hbd := xor_bd ((ys.getD j 0).toNat : Int) ((2 ^ (bit.toNat % 8) : Nat) : Int)
  have hpow := bit_pow bit (by omega)
  have zl : zs.length = 20 + so.length + sb.length := by rw [hzz, List.length_set]; exact hl
  have zt : List.take (20 + so.length + sb.length) zs = zs := List.take_of_length_le (by omega)
  have hh : ∃ k : Nat, IntKind.wrap IntKind.i64 (IntKind.wrap IntKind.i64 (Int.fdiv (↑(UInt8.toNat (List.getD zs (12 : Nat) (0 : UInt8))) : Int) (16 : Int)) * (4 : Int)) = (k : Int) ∧ k ≤ 60 := by
    have hx := (List.getD zs 12 0).toNat_lt
    refine ⟨(List.getD zs 12 0).toNat / 16 * 4, ?_, by omega⟩
    rw [Int.fdiv_eq_ediv_of_nonneg _ (by decide), w64 (↑(List.getD zs 12 0).toNat / 16) (by omega), w64 _ (by omega)]
    omega
  obtain ⟨k, hh, hk⟩ := hh
  have zs0 : ¬ ofL ((10 : UInt8) :: (0 : UInt8) :: (0 : UInt8) :: (1 : UInt8) :: (10 : UInt8) :: (0 : UInt8) :: (0 : UInt8) :: (2 : UInt8) :: (0 : UInt8) :: (6 : UInt8) :: lo8 ((20 + (so.length : Int) + (sb.length : Int)) / 256) :: lo8 (20 + (so.length : Int) + (sb.length : Int)) :: zs) = 0 := by
    rw [hzz]
    exact ofL_turned_pre ([(10 : UInt8), (0 : UInt8), (0 : UInt8), (1 : UInt8), (10 : UInt8), (0 : UInt8), (0 : UInt8), (2 : UInt8), (0 : UInt8), (6 : UInt8), lo8 ((20 + (so.length : Int) + (sb.length : Int)) / 256), lo8 (20 + (so.length : Int) + (sb.length : Int))]) ys j _ _ hg hx hs
  by_cases h6 : k < 20
  · refine ⟨_, _, (outT_ok k69_ok (tcpBits_form fr tp seq ack fl win urg so sb bit ys) ?_).1⟩
    repeat' (first | exact allNil | refine allCons ?_ ?_)
    all_goals ((try simp only [hzs, hh, hB1]) <;> (first | exact True.intro | (with_reducible exact id) | (intros; with_reducible assumption) | omega | (simp (disch := first | omega | (simp; omega)) [wu8, lo8_raw, fd256, fd65536, fd16777216, w64, take_len, hys, tcpH]; done) | (rw [hj, hj2, ht, hpow]; exact hbd) | exact wrap_u64_nonneg _ | (simp only [hj, hj2, ht, hl]; omega) | (simp; done) | (simp; omega) | (simp (disch := first | omega | (simp; omega)) [wu8, isB, lo8_raw, fd256, fd65536, fd16777216, w64, sameO_iff, take_len]; done) | (simp (disch := first | omega | (simp; omega)) [wu8, isB, lo8_raw, fd256, fd65536, fd16777216, w64, take_len]; omega)))
  by_cases h7 : 20 + so.length + sb.length < k
  · refine ⟨_, _, (outT_ok k69_ok (tcpBits_long fr tp seq ack fl win urg so sb bit ys) ?_).1⟩
    repeat' (first | exact allNil | refine allCons ?_ ?_)
    all_goals ((try simp only [hzs, hh, hB1]) <;> (first | exact True.intro | (with_reducible exact id) | (intros; with_reducible assumption) | omega | (simp (disch := first | omega | (simp; omega)) [wu8, lo8_raw, fd256, fd65536, fd16777216, w64, take_len, hys, tcpH]; done) | (rw [hj, hj2, ht, hpow]; exact hbd) | exact wrap_u64_nonneg _ | (simp only [hj, hj2, ht, hl]; omega) | (simp; done) | (simp; omega) | (simp (disch := first | omega | (simp; omega)) [wu8, isB, lo8_raw, fd256, fd65536, fd16777216, w64, sameO_iff, take_len]; done) | (simp (disch := first | omega | (simp; omega)) [wu8, isB, lo8_raw, fd256, fd65536, fd16777216, w64, take_len]; omega)))
  refine ⟨_, _, (outT_ok k69_ok (tcpBits_sum fr tp seq ack fl win urg so sb bit ys) ?_).1⟩
  repeat' (first | exact allNil | refine allCons ?_ ?_)
  all_goals ((try simp only [hzs, hh, hB1]) <;> (first | exact True.intro | (with_reducible exact id) | (intros; with_reducible assumption) | omega | (simp (disch := first | omega | (simp; omega)) [wu8, lo8_raw, fd256, fd65536, fd16777216, w64, take_len, hys, tcpH]; done) | (rw [hj, hj2, ht, hpow]; exact hbd) | exact wrap_u64_nonneg _ | (simp only [hj, hj2, ht, hl]; omega) | (simp; done) | (simp; omega) | (simp (disch := first | omega | (simp; omega)) [wu8, isB, lo8_raw, fd256, fd65536, fd16777216, w64, sameO_iff, take_len, zs0]; done) | (simp (disch := first | omega | (simp; omega)) [wu8, isB, lo8_raw, fd256, fd65536, fd16777216, w64, take_len]; omega)))
end Go.Proofs.Ytoekncmggjhmjaa.tcpBits
