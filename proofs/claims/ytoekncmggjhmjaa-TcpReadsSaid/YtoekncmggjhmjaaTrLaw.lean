/- The law TcpReads, walked: whatever is given, it answers true. -/
import Derived.Test.YtoekncmggjhmjaaTrRun
import Derived.Test.YtoekncmggjhmjaaWk
namespace Go.Proofs.Ytoekncmggjhmjaa.tcpReads
open Go.RowKit

theorem u8_and63 (x : UInt8) : bits .and .u8 (x.toNat : Int) 63 = (x.toNat : Int) % 64 := by
  have hx := x.toNat_lt
  show IntKind.u8.wrap ((BitVec.ofInt 8 (x.toNat : Int) &&& BitVec.ofInt 8 (63 : Int)).toNat : Int) = _
  have h1 : (BitVec.ofInt 8 (63 : Int)).toNat = 2 ^ 6 - 1 := by decide
  have h2 : (BitVec.ofInt 8 (x.toNat : Int)).toNat = x.toNat := by rw [BitVec.ofInt_natCast, BitVec.toNat_ofNat]; exact Nat.mod_eq_of_lt (by omega)
  rw [BitVec.toNat_and, h1, h2, Nat.and_two_pow_sub_one_eq_mod, wu8]
  omega
theorem flags_same (body : List UInt8) (h : 14 ≤ body.length) : (bits BinOp.and IntKind.i64 (↑(at16 body (12 : Nat)) : Int) (63 : Int) == IntKind.wrap IntKind.i64 (bits BinOp.and IntKind.u8 (↑(UInt8.toNat (List.getD body (13 : Nat) (0 : UInt8))) : Int) (63 : Int))) = true := by
  refine beq_t ?_
  have hx := (List.getD body 13 0).toNat_lt
  rw [and_63, u8_and63, w64 _ (by omega)]
  have e : at16 body 12 = (List.getD body 12 0).toNat * 256 + (List.getD body 13 0).toNat := by
    have := at16_len body 12 (by omega)
    rw [← this]
    simp [List.getElem?_take, List.getElem?_drop]
  omega

set_option maxHeartbeats 4000000 in
theorem walk (tos id flags part ttl proto f0 f1 f2 f3 t0 t1 t2 t3 : Int) (opts body : List UInt8) (hb : (0 ≤ f0 ∧ f0 < 256) ∧ (0 ≤ f1 ∧ f1 < 256) ∧ (0 ≤ f2 ∧ f2 < 256) ∧ (0 ≤ f3 ∧ f3 < 256) ∧ (0 ≤ t0 ∧ t0 < 256) ∧ (0 ≤ t1 ∧ t1 < 256) ∧ (0 ≤ t2 ∧ t2 < 256) ∧ (0 ≤ t3 ∧ t3 < 256)) :
    ∃ L' nx', ACall Try.prog 13 [.agg [.val (.int .i64 tos), .val (.int .i64 id), .val (.int .i64 flags), .val (.int .i64 part), .val (.int .i64 ttl), .val (.int .i64 proto), .val (.int .u8 f0), .val (.int .u8 f1), .val (.int .u8 f2), .val (.int .u8 f3), .val (.int .u8 t0), .val (.int .u8 t1), .val (.int .u8 t2), .val (.int .u8 t3), .bytes opts, .bytes body]] [] 0 (.val (.bool true)) L' nx' := by
  obtain ⟨bf0, bf1, bf2, bf3, bt0, bt1, bt2, bt3⟩ := hb
  by_cases h1 : 1600 < body.length
  · refine ⟨_, _, (outT_ok k69_ok (tcpReads_big1 tos id flags part ttl proto f0 f1 f2 f3 t0 t1 t2 t3 opts body) ?_).1⟩
    repeat' (first | exact allNil | refine allCons ?_ ?_)
    all_goals first | exact True.intro | (with_reducible exact id) | (intros; with_reducible assumption) | omega | (simp; done) | (simp; omega) | (simp (disch := first | omega | (simp; omega)) [str_toList, wu8, isB, lo8_raw, fd256, fd65536, fd16777216, w64, sameO_iff, lo8_mod, lo8_mod2, div_div, and_u32_65535, take_len]; done) | (simp (disch := first | omega | (simp; omega)) [str_toList, wu8, isB, lo8_raw, fd256, fd65536, fd16777216, w64, sameO_iff, lo8_mod, lo8_mod2, div_div, and_u32_65535, take_len]; omega)
  by_cases h2 : 60 < opts.length
  · refine ⟨_, _, (outT_ok k69_ok (tcpReads_big2 tos id flags part ttl proto f0 f1 f2 f3 t0 t1 t2 t3 opts body) ?_).1⟩
    repeat' (first | exact allNil | refine allCons ?_ ?_)
    all_goals first | exact True.intro | (with_reducible exact id) | (intros; with_reducible assumption) | omega | (simp; done) | (simp; omega) | (simp (disch := first | omega | (simp; omega)) [str_toList, wu8, isB, lo8_raw, fd256, fd65536, fd16777216, w64, sameO_iff, lo8_mod, lo8_mod2, div_div, and_u32_65535, take_len]; done) | (simp (disch := first | omega | (simp; omega)) [str_toList, wu8, isB, lo8_raw, fd256, fd65536, fd16777216, w64, sameO_iff, lo8_mod, lo8_mod2, div_div, and_u32_65535, take_len]; omega)
  by_cases h3 : proto = 6
  case neg =>
    refine ⟨_, _, (outT_ok k69_ok (tcpReads_arg tos id flags part ttl proto f0 f1 f2 f3 t0 t1 t2 t3 opts body) ?_).1⟩
    repeat' (first | exact allNil | refine allCons ?_ ?_)
    all_goals first | exact True.intro | (with_reducible exact id) | (intros; with_reducible assumption) | omega | (simp; done) | (simp; omega) | (simp (disch := first | omega | (simp; omega)) [str_toList, wu8, isB, lo8_raw, fd256, fd65536, fd16777216, w64, sameO_iff, lo8_mod, lo8_mod2, div_div, and_u32_65535, take_len, h3]; done) | (simp (disch := first | omega | (simp; omega)) [str_toList, wu8, isB, lo8_raw, fd256, fd65536, fd16777216, w64, sameO_iff, lo8_mod, lo8_mod2, div_div, and_u32_65535, take_len, h3]; omega)
  cases h4 : (bif part == (0 : Int) then bits BinOp.and IntKind.i64 flags (1 : Int) == (0 : Int) else false)
  case false =>
    refine ⟨_, _, (outT_ok k69_ok (tcpReads_frag tos id flags part ttl proto f0 f1 f2 f3 t0 t1 t2 t3 opts body) ?_).1⟩
    repeat' (first | exact allNil | refine allCons ?_ ?_)
    all_goals first | exact True.intro | (with_reducible exact id) | (intros; with_reducible assumption) | omega | exact h4 | (rw [h4]; rfl) | (simp; done) | (simp; omega) | (simp (disch := first | omega | (simp; omega)) [str_toList, wu8, isB, lo8_raw, fd256, fd65536, fd16777216, w64, sameO_iff, lo8_mod, lo8_mod2, div_div, and_u32_65535, take_len, h3]; done) | (simp (disch := first | omega | (simp; omega)) [str_toList, wu8, isB, lo8_raw, fd256, fd65536, fd16777216, w64, sameO_iff, lo8_mod, lo8_mod2, div_div, and_u32_65535, take_len, h3]; omega)
  by_cases h5 : body.length < 20
  · refine ⟨_, _, (outT_ok k69_ok (tcpReads_short tos id flags part ttl proto f0 f1 f2 f3 t0 t1 t2 t3 opts body) ?_).1⟩
    repeat' (first | exact allNil | refine allCons ?_ ?_)
    all_goals first | exact True.intro | (with_reducible exact id) | (intros; with_reducible assumption) | omega | exact h4 | (rw [h4]; rfl) | (simp; done) | (simp; omega) | (simp (disch := first | omega | (simp; omega)) [str_toList, wu8, isB, lo8_raw, fd256, fd65536, fd16777216, w64, sameO_iff, lo8_mod, lo8_mod2, div_div, and_u32_65535, take_len, h3]; done) | (simp (disch := first | omega | (simp; omega)) [str_toList, wu8, isB, lo8_raw, fd256, fd65536, fd16777216, w64, sameO_iff, lo8_mod, lo8_mod2, div_div, and_u32_65535, take_len, h3]; omega)
  have hh : ∃ k : Nat, IntKind.wrap IntKind.i64 (IntKind.wrap IntKind.i64 (Int.fdiv (↑(UInt8.toNat (List.getD body (12 : Nat) (0 : UInt8))) : Int) (16 : Int)) * (4 : Int)) = (k : Int) ∧ k ≤ 60 := by
    have hx := (List.getD body 12 0).toNat_lt
    refine ⟨(List.getD body 12 0).toNat / 16 * 4, ?_, by omega⟩
    rw [Int.fdiv_eq_ediv_of_nonneg _ (by decide), w64 (↑(List.getD body 12 0).toNat / 16) (by omega), w64 _ (by omega)]
    omega
  obtain ⟨k, hh, hk⟩ := hh
  have hfl := flags_same body (by omega)
  by_cases h6 : k < 20
  · refine ⟨_, _, (outT_ok k69_ok (tcpReads_form tos id flags part ttl proto f0 f1 f2 f3 t0 t1 t2 t3 opts body) ?_).1⟩
    repeat' (first | exact allNil | refine allCons ?_ ?_)
    all_goals ((try simp only [hh]) <;> (first | exact True.intro | (with_reducible exact id) | (intros; with_reducible assumption) | omega | exact h4 | (rw [h4]; rfl) | exact hfl | (simp; done) | (simp; omega) | (simp (disch := first | omega | (simp; omega)) [str_toList, wu8, isB, lo8_raw, fd256, fd65536, fd16777216, w64, sameO_iff, lo8_mod, lo8_mod2, div_div, and_u32_65535, take_len, h3]; done) | (simp (disch := first | omega | (simp; omega)) [str_toList, wu8, isB, lo8_raw, fd256, fd65536, fd16777216, w64, sameO_iff, lo8_mod, lo8_mod2, div_div, and_u32_65535, take_len, h3]; omega)))
  by_cases h7 : body.length < k
  · refine ⟨_, _, (outT_ok k69_ok (tcpReads_long tos id flags part ttl proto f0 f1 f2 f3 t0 t1 t2 t3 opts body) ?_).1⟩
    repeat' (first | exact allNil | refine allCons ?_ ?_)
    all_goals ((try simp only [hh]) <;> (first | exact True.intro | (with_reducible exact id) | (intros; with_reducible assumption) | omega | exact h4 | (rw [h4]; rfl) | exact hfl | (simp; done) | (simp; omega) | (simp (disch := first | omega | (simp; omega)) [str_toList, wu8, isB, lo8_raw, fd256, fd65536, fd16777216, w64, sameO_iff, lo8_mod, lo8_mod2, div_div, and_u32_65535, take_len, h3]; done) | (simp (disch := first | omega | (simp; omega)) [str_toList, wu8, isB, lo8_raw, fd256, fd65536, fd16777216, w64, sameO_iff, lo8_mod, lo8_mod2, div_div, and_u32_65535, take_len, h3]; omega)))
  by_cases h9 : ofL (UInt8.ofNat (Int.toNat f0) :: UInt8.ofNat (Int.toNat f1) :: UInt8.ofNat (Int.toNat f2) :: UInt8.ofNat (Int.toNat f3) :: UInt8.ofNat (Int.toNat t0) :: UInt8.ofNat (Int.toNat t1) :: UInt8.ofNat (Int.toNat t2) :: UInt8.ofNat (Int.toNat t3) :: (0 : UInt8) :: (6 : UInt8) :: lo8 (body.length / 256) :: lo8 body.length :: body) = 0
  case neg =>
    refine ⟨_, _, (outT_ok k69_ok (tcpReads_sum tos id flags part ttl proto f0 f1 f2 f3 t0 t1 t2 t3 opts body) ?_).1⟩
    repeat' (first | exact allNil | refine allCons ?_ ?_)
    all_goals ((try simp only [hh]) <;> (first | exact True.intro | (with_reducible exact id) | (intros; with_reducible assumption) | omega | exact h4 | (rw [h4]; rfl) | exact hfl | (simp; done) | (simp; omega) | (simp (disch := first | omega | (simp; omega)) [str_toList, wu8, isB, lo8_raw, fd256, fd65536, fd16777216, w64, sameO_iff, lo8_mod, lo8_mod2, div_div, and_u32_65535, take_len, h3, h9]; done) | (simp (disch := first | omega | (simp; omega)) [str_toList, wu8, isB, lo8_raw, fd256, fd65536, fd16777216, w64, sameO_iff, lo8_mod, lo8_mod2, div_div, and_u32_65535, take_len, h3, h9]; omega)))
  have hz : Int.toNat ((k : Int) - 20) = k - 20 := by omega
  have e1 : List.take (k - 20) (List.drop 20 body) = List.drop 20 (List.take k body) := by rw [List.drop_take]
  have e2 : 20 + (k - 20) = k := by omega
  refine ⟨_, _, ((outT_ok k69_ok (tcpReads_ok tos id flags part ttl proto f0 f1 f2 f3 t0 t1 t2 t3 opts body) ?_).1).truly ?_⟩
  · repeat' (first | exact allNil | refine allCons ?_ ?_)
    all_goals ((try simp only [hh]) <;> (first | exact True.intro | (with_reducible exact id) | (intros; with_reducible assumption) | omega | exact h4 | (rw [h4]; rfl) | exact hfl | (simp; done) | (simp; omega) | (simp (disch := first | omega | (simp; omega)) [str_toList, wu8, isB, lo8_raw, fd256, fd65536, fd16777216, w64, sameO_iff, lo8_mod, lo8_mod2, div_div, and_u32_65535, take_len, h3, hz, e1, e2, h9]; done) | (simp (disch := first | omega | (simp; omega)) [str_toList, wu8, isB, lo8_raw, fd256, fd65536, fd16777216, w64, sameO_iff, lo8_mod, lo8_mod2, div_div, and_u32_65535, take_len, h3, hz, e1, e2, h9]; omega)))
  · simp only [hh]; simp (disch := first | omega | (simp; omega)) [str_toList, w64, take_len, hz, e1, e2]; exact (List.take_of_length_le (by simp)).symm
end Go.Proofs.Ytoekncmggjhmjaa.tcpReads
