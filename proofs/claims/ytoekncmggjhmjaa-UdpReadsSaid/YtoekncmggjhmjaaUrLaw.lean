/- The law UdpReads, walked: whatever is given, it answers true. -/
import Derived.Test.YtoekncmggjhmjaaUrRun
import Derived.Test.YtoekncmggjhmjaaWk
namespace Go.Proofs.Ytoekncmggjhmjaa.udpReads
open Go.RowKit

set_option maxHeartbeats 4000000 in
theorem walk (tos id flags part ttl proto f0 f1 f2 f3 t0 t1 t2 t3 : Int) (opts body : List UInt8) (hb : (0 ≤ f0 ∧ f0 < 256) ∧ (0 ≤ f1 ∧ f1 < 256) ∧ (0 ≤ f2 ∧ f2 < 256) ∧ (0 ≤ f3 ∧ f3 < 256) ∧ (0 ≤ t0 ∧ t0 < 256) ∧ (0 ≤ t1 ∧ t1 < 256) ∧ (0 ≤ t2 ∧ t2 < 256) ∧ (0 ≤ t3 ∧ t3 < 256)) :
    ∃ L' nx', ACall Try.prog 8 [.agg [.val (.int .i64 tos), .val (.int .i64 id), .val (.int .i64 flags), .val (.int .i64 part), .val (.int .i64 ttl), .val (.int .i64 proto), .val (.int .u8 f0), .val (.int .u8 f1), .val (.int .u8 f2), .val (.int .u8 f3), .val (.int .u8 t0), .val (.int .u8 t1), .val (.int .u8 t2), .val (.int .u8 t3), .bytes opts, .bytes body]] [] 0 (.val (.bool true)) L' nx' := by
  obtain ⟨bf0, bf1, bf2, bf3, bt0, bt1, bt2, bt3⟩ := hb
  by_cases h1 : 1600 < body.length
  · refine ⟨_, _, (outT_ok k69_ok (udpReads_big1 tos id flags part ttl proto f0 f1 f2 f3 t0 t1 t2 t3 opts body) ?_).1⟩
    repeat' (first | exact allNil | refine allCons ?_ ?_)
    all_goals first | exact True.intro | (with_reducible exact id) | (intros; with_reducible assumption) | omega | (simp; done) | (simp; omega) | (simp (disch := first | omega | (simp; omega)) [str_toList, wu8, isB, lo8_raw, fd256, fd65536, fd16777216, w64, sameO_iff, lo8_mod, lo8_mod2, div_div, and_u32_65535, take_len]; done) | (simp (disch := first | omega | (simp; omega)) [str_toList, wu8, isB, lo8_raw, fd256, fd65536, fd16777216, w64, sameO_iff, lo8_mod, lo8_mod2, div_div, and_u32_65535, take_len]; omega)
  by_cases h2 : 60 < opts.length
  · refine ⟨_, _, (outT_ok k69_ok (udpReads_big2 tos id flags part ttl proto f0 f1 f2 f3 t0 t1 t2 t3 opts body) ?_).1⟩
    repeat' (first | exact allNil | refine allCons ?_ ?_)
    all_goals first | exact True.intro | (with_reducible exact id) | (intros; with_reducible assumption) | omega | (simp; done) | (simp; omega) | (simp (disch := first | omega | (simp; omega)) [str_toList, wu8, isB, lo8_raw, fd256, fd65536, fd16777216, w64, sameO_iff, lo8_mod, lo8_mod2, div_div, and_u32_65535, take_len]; done) | (simp (disch := first | omega | (simp; omega)) [str_toList, wu8, isB, lo8_raw, fd256, fd65536, fd16777216, w64, sameO_iff, lo8_mod, lo8_mod2, div_div, and_u32_65535, take_len]; omega)
  by_cases h3 : proto = 17
  case neg =>
    refine ⟨_, _, (outT_ok k69_ok (udpReads_arg tos id flags part ttl proto f0 f1 f2 f3 t0 t1 t2 t3 opts body) ?_).1⟩
    repeat' (first | exact allNil | refine allCons ?_ ?_)
    all_goals first | exact True.intro | (with_reducible exact id) | (intros; with_reducible assumption) | omega | (simp; done) | (simp; omega) | (simp (disch := first | omega | (simp; omega)) [str_toList, wu8, isB, lo8_raw, fd256, fd65536, fd16777216, w64, sameO_iff, lo8_mod, lo8_mod2, div_div, and_u32_65535, take_len, h3]; done) | (simp (disch := first | omega | (simp; omega)) [str_toList, wu8, isB, lo8_raw, fd256, fd65536, fd16777216, w64, sameO_iff, lo8_mod, lo8_mod2, div_div, and_u32_65535, take_len, h3]; omega)
  cases h4 : (bif part == (0 : Int) then bits BinOp.and IntKind.i64 flags (1 : Int) == (0 : Int) else false)
  case false =>
    refine ⟨_, _, (outT_ok k69_ok (udpReads_frag tos id flags part ttl proto f0 f1 f2 f3 t0 t1 t2 t3 opts body) ?_).1⟩
    repeat' (first | exact allNil | refine allCons ?_ ?_)
    all_goals first | exact True.intro | (with_reducible exact id) | (intros; with_reducible assumption) | omega | exact h4 | (rw [h4]; rfl) | (simp; done) | (simp; omega) | (simp (disch := first | omega | (simp; omega)) [str_toList, wu8, isB, lo8_raw, fd256, fd65536, fd16777216, w64, sameO_iff, lo8_mod, lo8_mod2, div_div, and_u32_65535, take_len, h3]; done) | (simp (disch := first | omega | (simp; omega)) [str_toList, wu8, isB, lo8_raw, fd256, fd65536, fd16777216, w64, sameO_iff, lo8_mod, lo8_mod2, div_div, and_u32_65535, take_len, h3]; omega)
  by_cases h5 : body.length < 8
  · refine ⟨_, _, (outT_ok k69_ok (udpReads_short tos id flags part ttl proto f0 f1 f2 f3 t0 t1 t2 t3 opts body) ?_).1⟩
    repeat' (first | exact allNil | refine allCons ?_ ?_)
    all_goals first | exact True.intro | (with_reducible exact id) | (intros; with_reducible assumption) | omega | exact h4 | (rw [h4]; rfl) | (simp; done) | (simp; omega) | (simp (disch := first | omega | (simp; omega)) [str_toList, wu8, isB, lo8_raw, fd256, fd65536, fd16777216, w64, sameO_iff, lo8_mod, lo8_mod2, div_div, and_u32_65535, take_len, h3]; done) | (simp (disch := first | omega | (simp; omega)) [str_toList, wu8, isB, lo8_raw, fd256, fd65536, fd16777216, w64, sameO_iff, lo8_mod, lo8_mod2, div_div, and_u32_65535, take_len, h3]; omega)
  have hn := at16_lt body 4
  by_cases h6 : body.length < at16 body 4
  · refine ⟨_, _, (outT_ok k69_ok (udpReads_long tos id flags part ttl proto f0 f1 f2 f3 t0 t1 t2 t3 opts body) ?_).1⟩
    repeat' (first | exact allNil | refine allCons ?_ ?_)
    all_goals first | exact True.intro | (with_reducible exact id) | (intros; with_reducible assumption) | omega | exact h4 | (rw [h4]; rfl) | (simp; done) | (simp; omega) | (simp (disch := first | omega | (simp; omega)) [str_toList, wu8, isB, lo8_raw, fd256, fd65536, fd16777216, w64, sameO_iff, lo8_mod, lo8_mod2, div_div, and_u32_65535, take_len, h3]; done) | (simp (disch := first | omega | (simp; omega)) [str_toList, wu8, isB, lo8_raw, fd256, fd65536, fd16777216, w64, sameO_iff, lo8_mod, lo8_mod2, div_div, and_u32_65535, take_len, h3]; omega)
  by_cases h7 : at16 body 4 < 8
  · refine ⟨_, _, (outT_ok k69_ok (udpReads_form tos id flags part ttl proto f0 f1 f2 f3 t0 t1 t2 t3 opts body) ?_).1⟩
    repeat' (first | exact allNil | refine allCons ?_ ?_)
    all_goals first | exact True.intro | (with_reducible exact id) | (intros; with_reducible assumption) | omega | exact h4 | (rw [h4]; rfl) | (simp; done) | (simp; omega) | (simp (disch := first | omega | (simp; omega)) [str_toList, wu8, isB, lo8_raw, fd256, fd65536, fd16777216, w64, sameO_iff, lo8_mod, lo8_mod2, div_div, and_u32_65535, take_len, h3]; done) | (simp (disch := first | omega | (simp; omega)) [str_toList, wu8, isB, lo8_raw, fd256, fd65536, fd16777216, w64, sameO_iff, lo8_mod, lo8_mod2, div_div, and_u32_65535, take_len, h3]; omega)
  have hm : min (at16 body 4) body.length = at16 body 4 := by omega
  have hmi : min (at16 body 4 : Int) (body.length : Int) = (at16 body 4 : Int) := by omega
  have hz : Int.toNat ((at16 body 4 : Int) - 8) = at16 body 4 - 8 := by omega
  have e8 : List.take (at16 body 4 - 8) (List.drop 8 body) = List.drop 8 (List.take (at16 body 4) body) := by rw [List.drop_take]
  by_cases h8 : at16 body 6 = 0
  · refine ⟨_, _, ((outT_ok k69_ok (udpReads_none tos id flags part ttl proto f0 f1 f2 f3 t0 t1 t2 t3 opts body) ?_).1).truly ?_⟩
    · repeat' (first | exact allNil | refine allCons ?_ ?_)
      all_goals first | exact True.intro | (with_reducible exact id) | (intros; with_reducible assumption) | omega | exact h4 | (rw [h4]; rfl) | (simp; done) | (simp; omega) | (simp (disch := first | omega | (simp; omega)) [str_toList, wu8, isB, lo8_raw, fd256, fd65536, fd16777216, w64, sameO_iff, lo8_mod, lo8_mod2, div_div, and_u32_65535, take_len, h3, hm, hmi, hz, h8]; done) | (simp (disch := first | omega | (simp; omega)) [str_toList, wu8, isB, lo8_raw, fd256, fd65536, fd16777216, w64, sameO_iff, lo8_mod, lo8_mod2, div_div, and_u32_65535, take_len, h3, hm, hmi, hz, h8]; omega)
    · simp (disch := first | omega | (simp; omega)) [str_toList, w64, take_len, hm, hmi, hz, e8]
  by_cases h9 : ofL (UInt8.ofNat (Int.toNat f0) :: UInt8.ofNat (Int.toNat f1) :: UInt8.ofNat (Int.toNat f2) :: UInt8.ofNat (Int.toNat f3) :: UInt8.ofNat (Int.toNat t0) :: UInt8.ofNat (Int.toNat t1) :: UInt8.ofNat (Int.toNat t2) :: UInt8.ofNat (Int.toNat t3) :: (0 : UInt8) :: (17 : UInt8) :: lo8 ((at16 body 4 : Nat) / 256) :: lo8 (at16 body 4 : Nat) :: List.take (at16 body 4) body) = 0
  case neg =>
    refine ⟨_, _, (outT_ok k69_ok (udpReads_sum tos id flags part ttl proto f0 f1 f2 f3 t0 t1 t2 t3 opts body) ?_).1⟩
    repeat' (first | exact allNil | refine allCons ?_ ?_)
    all_goals first | exact True.intro | (with_reducible exact id) | (intros; with_reducible assumption) | omega | exact h4 | (rw [h4]; rfl) | (simp; done) | (simp; omega) | (simp (disch := first | omega | (simp; omega)) [str_toList, wu8, isB, lo8_raw, fd256, fd65536, fd16777216, w64, sameO_iff, lo8_mod, lo8_mod2, div_div, and_u32_65535, take_len, h3, hm, hmi, hz, h8, h9]; done) | (simp (disch := first | omega | (simp; omega)) [str_toList, wu8, isB, lo8_raw, fd256, fd65536, fd16777216, w64, sameO_iff, lo8_mod, lo8_mod2, div_div, and_u32_65535, take_len, h3, hm, hmi, hz, h8, h9]; omega)
  refine ⟨_, _, ((outT_ok k69_ok (udpReads_ok tos id flags part ttl proto f0 f1 f2 f3 t0 t1 t2 t3 opts body) ?_).1).truly ?_⟩
  · repeat' (first | exact allNil | refine allCons ?_ ?_)
    all_goals first | exact True.intro | (with_reducible exact id) | (intros; with_reducible assumption) | omega | exact h4 | (rw [h4]; rfl) | (simp; done) | (simp; omega) | (simp (disch := first | omega | (simp; omega)) [str_toList, wu8, isB, lo8_raw, fd256, fd65536, fd16777216, w64, sameO_iff, lo8_mod, lo8_mod2, div_div, and_u32_65535, take_len, h3, hm, hmi, hz, h8, h9]; done) | (simp (disch := first | omega | (simp; omega)) [str_toList, wu8, isB, lo8_raw, fd256, fd65536, fd16777216, w64, sameO_iff, lo8_mod, lo8_mod2, div_div, and_u32_65535, take_len, h3, hm, hmi, hz, h8, h9]; omega)
  · simp (disch := first | omega | (simp; omega)) [str_toList, w64, take_len, hm, hmi, hz, e8]
end Go.Proofs.Ytoekncmggjhmjaa.udpReads
