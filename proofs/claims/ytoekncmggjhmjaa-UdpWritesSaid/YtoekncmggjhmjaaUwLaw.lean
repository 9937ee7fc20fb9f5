/- The law UdpWrites, walked: whatever is given, it answers true. -/
import Derived.Test.YtoekncmggjhmjaaUwRun
import Derived.Test.YtoekncmggjhmjaaUdpB
namespace Go.Proofs.Ytoekncmggjhmjaa.udpWrites
open Go.RowKit

set_option maxHeartbeats 4000000 in
theorem walk (tos id flags part ttl proto f0 f1 f2 f3 t0 t1 t2 t3 : Int) (opts body : List UInt8) (fr tp : Int) (db : List UInt8) (hb : (0 ≤ f0 ∧ f0 < 256) ∧ (0 ≤ f1 ∧ f1 < 256) ∧ (0 ≤ f2 ∧ f2 < 256) ∧ (0 ≤ f3 ∧ f3 < 256) ∧ (0 ≤ t0 ∧ t0 < 256) ∧ (0 ≤ t1 ∧ t1 < 256) ∧ (0 ≤ t2 ∧ t2 < 256) ∧ (0 ≤ t3 ∧ t3 < 256)) :
    ∃ L' nx', ACall Try.prog 9 [.agg [.val (.int .i64 tos), .val (.int .i64 id), .val (.int .i64 flags), .val (.int .i64 part), .val (.int .i64 ttl), .val (.int .i64 proto), .val (.int .u8 f0), .val (.int .u8 f1), .val (.int .u8 f2), .val (.int .u8 f3), .val (.int .u8 t0), .val (.int .u8 t1), .val (.int .u8 t2), .val (.int .u8 t3), .bytes opts, .bytes body], .agg [.val (.int .i64 fr), .val (.int .i64 tp), .bytes db]] [] 0 (.val (.bool true)) L' nx' := by
  obtain ⟨bf0, bf1, bf2, bf3, bt0, bt1, bt2, bt3⟩ := hb
  by_cases h1 : 1600 < body.length
  · refine ⟨_, _, (outT_ok k69_ok (udpWrites_big1 tos id flags part ttl proto f0 f1 f2 f3 t0 t1 t2 t3 opts body fr tp db) ?_).1⟩
    repeat' (first | exact allNil | refine allCons ?_ ?_)
    all_goals first | exact True.intro | (with_reducible exact id) | (intros; with_reducible assumption) | omega | (simp; done) | (simp; omega) | (simp (disch := first | omega | (simp; omega)) [str_toList, wu8, isB, lo8_raw, fd256, fd65536, fd16777216, w64, sameO_iff, lo8_mod, lo8_mod2, div_div, and_u32_65535, take_len]; done) | (simp (disch := first | omega | (simp; omega)) [str_toList, wu8, isB, lo8_raw, fd256, fd65536, fd16777216, w64, sameO_iff, lo8_mod, lo8_mod2, div_div, and_u32_65535, take_len]; omega)
  by_cases h2 : 60 < opts.length
  · refine ⟨_, _, (outT_ok k69_ok (udpWrites_big2 tos id flags part ttl proto f0 f1 f2 f3 t0 t1 t2 t3 opts body fr tp db) ?_).1⟩
    repeat' (first | exact allNil | refine allCons ?_ ?_)
    all_goals first | exact True.intro | (with_reducible exact id) | (intros; with_reducible assumption) | omega | (simp; done) | (simp; omega) | (simp (disch := first | omega | (simp; omega)) [str_toList, wu8, isB, lo8_raw, fd256, fd65536, fd16777216, w64, sameO_iff, lo8_mod, lo8_mod2, div_div, and_u32_65535, take_len]; done) | (simp (disch := first | omega | (simp; omega)) [str_toList, wu8, isB, lo8_raw, fd256, fd65536, fd16777216, w64, sameO_iff, lo8_mod, lo8_mod2, div_div, and_u32_65535, take_len]; omega)
  by_cases h3 : 1600 < db.length
  · refine ⟨_, _, (outT_ok k69_ok (udpWrites_big3 tos id flags part ttl proto f0 f1 f2 f3 t0 t1 t2 t3 opts body fr tp db) ?_).1⟩
    repeat' (first | exact allNil | refine allCons ?_ ?_)
    all_goals first | exact True.intro | (with_reducible exact id) | (intros; with_reducible assumption) | omega | (simp; done) | (simp; omega) | (simp (disch := first | omega | (simp; omega)) [str_toList, wu8, isB, lo8_raw, fd256, fd65536, fd16777216, w64, sameO_iff, lo8_mod, lo8_mod2, div_div, and_u32_65535, take_len]; done) | (simp (disch := first | omega | (simp; omega)) [str_toList, wu8, isB, lo8_raw, fd256, fd65536, fd16777216, w64, sameO_iff, lo8_mod, lo8_mod2, div_div, and_u32_65535, take_len]; omega)
  by_cases h4 : 0 ≤ fr ∧ fr ≤ 65535
  case neg =>
    refine ⟨_, _, (outT_ok k69_ok (udpWrites_arg1 tos id flags part ttl proto f0 f1 f2 f3 t0 t1 t2 t3 opts body fr tp db) ?_).1⟩
    repeat' (first | exact allNil | refine allCons ?_ ?_)
    all_goals first | exact True.intro | (with_reducible exact id) | (intros; with_reducible assumption) | omega | (simp; done) | (simp; omega) | (simp (disch := first | omega | (simp; omega)) [str_toList, wu8, isB, lo8_raw, fd256, fd65536, fd16777216, w64, sameO_iff, lo8_mod, lo8_mod2, div_div, and_u32_65535, take_len]; done) | (simp (disch := first | omega | (simp; omega)) [str_toList, wu8, isB, lo8_raw, fd256, fd65536, fd16777216, w64, sameO_iff, lo8_mod, lo8_mod2, div_div, and_u32_65535, take_len]; omega)
  by_cases h5 : 0 ≤ tp ∧ tp ≤ 65535
  case neg =>
    obtain ⟨h4, h4b⟩ := h4
    refine ⟨_, _, (outT_ok k69_ok (udpWrites_arg2 tos id flags part ttl proto f0 f1 f2 f3 t0 t1 t2 t3 opts body fr tp db) ?_).1⟩
    repeat' (first | exact allNil | refine allCons ?_ ?_)
    all_goals first | exact True.intro | (with_reducible exact id) | (intros; with_reducible assumption) | omega | (simp; done) | (simp; omega) | (simp (disch := first | omega | (simp; omega)) [str_toList, wu8, isB, lo8_raw, fd256, fd65536, fd16777216, w64, sameO_iff, lo8_mod, lo8_mod2, div_div, and_u32_65535, take_len]; done) | (simp (disch := first | omega | (simp; omega)) [str_toList, wu8, isB, lo8_raw, fd256, fd65536, fd16777216, w64, sameO_iff, lo8_mod, lo8_mod2, div_div, and_u32_65535, take_len]; omega)
  obtain ⟨h4, h4b⟩ := h4
  obtain ⟨h5, h5b⟩ := h5
  by_cases h6 : 1472 < db.length
  · refine ⟨_, _, (outT_ok k69_ok (udpWrites_limit tos id flags part ttl proto f0 f1 f2 f3 t0 t1 t2 t3 opts body fr tp db) ?_).1⟩
    repeat' (first | exact allNil | refine allCons ?_ ?_)
    all_goals first | exact True.intro | (with_reducible exact id) | (intros; with_reducible assumption) | omega | (simp; done) | (simp; omega) | (simp (disch := first | omega | (simp; omega)) [str_toList, wu8, isB, lo8_raw, fd256, fd65536, fd16777216, w64, sameO_iff, lo8_mod, lo8_mod2, div_div, and_u32_65535, take_len]; done) | (simp (disch := first | omega | (simp; omega)) [str_toList, wu8, isB, lo8_raw, fd256, fd65536, fd16777216, w64, sameO_iff, lo8_mod, lo8_mod2, div_div, and_u32_65535, take_len]; omega)
  by_cases hS : ofL (UInt8.ofNat (Int.toNat f0) :: UInt8.ofNat (Int.toNat f1) :: UInt8.ofNat (Int.toNat f2) :: UInt8.ofNat (Int.toNat f3) :: UInt8.ofNat (Int.toNat t0) :: UInt8.ofNat (Int.toNat t1) :: UInt8.ofNat (Int.toNat t2) :: UInt8.ofNat (Int.toNat t3) :: (0 : UInt8) :: (17 : UInt8) :: lo8 ((8 + (db.length : Int)) / 256) :: lo8 (8 + (db.length : Int)) :: udpH fr tp db 0 0) = 0
  case pos =>
    obtain ⟨ys, hys⟩ : ∃ ys, ys = udpH fr tp db 255 255 := ⟨_, rfl⟩
    have hl : ys.length = 8 + db.length := by rw [hys]; exact udpH_len ..
    have ht : List.take (8 + db.length) ys = ys := List.take_of_length_le (by omega)
    have a0 : ((at16 ys 0 : Nat) : Int) = fr := by rw [hys]; exact udpH_fr _ _ _ _ _ ⟨h4, h4b⟩
    have a2 : ((at16 ys 2 : Nat) : Int) = tp := by rw [hys]; exact udpH_tp _ _ _ _ _ ⟨h5, h5b⟩
    have a4 : at16 ys 4 = 8 + db.length := by rw [hys]; exact udpH_n _ _ _ _ _ (by omega)
    have a6 : ¬ at16 ys 6 = 0 := by
      rw [hys, udpH_s]
      decide
    have e8 : List.drop 8 ys = db := by rw [hys]; rfl
    have hs : ofL (UInt8.ofNat (Int.toNat f0) :: UInt8.ofNat (Int.toNat f1) :: UInt8.ofNat (Int.toNat f2) :: UInt8.ofNat (Int.toNat f3) :: UInt8.ofNat (Int.toNat t0) :: UInt8.ofNat (Int.toNat t1) :: UInt8.ofNat (Int.toNat t2) :: UInt8.ofNat (Int.toNat t3) :: (0 : UInt8) :: (17 : UInt8) :: lo8 ((8 + (db.length : Int)) / 256) :: lo8 (8 + (db.length : Int)) :: ys) = 0 := by
      rw [hys]
      exact udpH_sum1 _ _ _ _ _ _ _ _ _ _ _ _ _ _ _ hS
    have hu := hS
    simp only [udpH] at hu
    have hz : Int.toNat (8 + (db.length : Int)) = 8 + db.length := by omega
    cases h7 : (bif part == (0 : Int) then bits BinOp.and IntKind.i64 flags (1 : Int) == (0 : Int) else false)
    case false =>
      refine ⟨_, _, (outT_ok k69_ok (udpWrites_part0 tos id flags part ttl proto f0 f1 f2 f3 t0 t1 t2 t3 opts body fr tp db ys) ?_).1⟩
      repeat' (first | exact allNil | refine allCons ?_ ?_)
      all_goals first | exact True.intro | (with_reducible exact id) | (intros; with_reducible assumption) | omega | exact h7 | (rw [h7]; rfl) | (simp (disch := first | omega | (simp; omega)) [wu8, lo8_raw, fd256, w64, take_len, hS, hys, udpH]; done) | (simp; done) | (simp; omega) | (simp (disch := first | omega | (simp; omega)) [str_toList, wu8, isB, lo8_raw, fd256, fd65536, fd16777216, w64, sameO_iff, lo8_mod, lo8_mod2, div_div, and_u32_65535, take_len, a0, a2, a4, a6, hl, ht, hs, hu, hz, e8]; done) | (simp (disch := first | omega | (simp; omega)) [str_toList, wu8, isB, lo8_raw, fd256, fd65536, fd16777216, w64, sameO_iff, lo8_mod, lo8_mod2, div_div, and_u32_65535, take_len, a0, a2, a4, a6, hl, ht, hs, hu, hz, e8]; omega)
    refine ⟨_, _, ((outT_ok k69_ok (udpWrites_ok0 tos id flags part ttl proto f0 f1 f2 f3 t0 t1 t2 t3 opts body fr tp db ys) ?_).1).truly ?_⟩
    · repeat' (first | exact allNil | refine allCons ?_ ?_)
      all_goals first | exact True.intro | (with_reducible exact id) | (intros; with_reducible assumption) | omega | exact h7 | (rw [h7]; rfl) | (simp (disch := first | omega | (simp; omega)) [wu8, lo8_raw, fd256, w64, take_len, hS, hys, udpH]; done) | (simp; done) | (simp; omega) | (simp (disch := first | omega | (simp; omega)) [str_toList, wu8, isB, lo8_raw, fd256, fd65536, fd16777216, w64, sameO_iff, lo8_mod, lo8_mod2, div_div, and_u32_65535, take_len, a0, a2, a4, a6, hl, ht, hs, hu, hz, e8]; done) | (simp (disch := first | omega | (simp; omega)) [str_toList, wu8, isB, lo8_raw, fd256, fd65536, fd16777216, w64, sameO_iff, lo8_mod, lo8_mod2, div_div, and_u32_65535, take_len, a0, a2, a4, a6, hl, ht, hs, hu, hz, e8]; omega)
    · simp (disch := first | omega | (simp; omega)) [str_toList, w64, take_len, a4, hl, ht, e8]
  case neg =>
    obtain ⟨ys, hys⟩ : ∃ ys, ys = udpH fr tp db (lo8 ((ofL (UInt8.ofNat (Int.toNat f0) :: UInt8.ofNat (Int.toNat f1) :: UInt8.ofNat (Int.toNat f2) :: UInt8.ofNat (Int.toNat f3) :: UInt8.ofNat (Int.toNat t0) :: UInt8.ofNat (Int.toNat t1) :: UInt8.ofNat (Int.toNat t2) :: UInt8.ofNat (Int.toNat t3) :: (0 : UInt8) :: (17 : UInt8) :: lo8 ((8 + (db.length : Int)) / 256) :: lo8 (8 + (db.length : Int)) :: udpH fr tp db 0 0) : Nat) / 256)) (lo8 (ofL (UInt8.ofNat (Int.toNat f0) :: UInt8.ofNat (Int.toNat f1) :: UInt8.ofNat (Int.toNat f2) :: UInt8.ofNat (Int.toNat f3) :: UInt8.ofNat (Int.toNat t0) :: UInt8.ofNat (Int.toNat t1) :: UInt8.ofNat (Int.toNat t2) :: UInt8.ofNat (Int.toNat t3) :: (0 : UInt8) :: (17 : UInt8) :: lo8 ((8 + (db.length : Int)) / 256) :: lo8 (8 + (db.length : Int)) :: udpH fr tp db 0 0) : Nat)) := ⟨_, rfl⟩
    have hl : ys.length = 8 + db.length := by rw [hys]; exact udpH_len ..
    have ht : List.take (8 + db.length) ys = ys := List.take_of_length_le (by omega)
    have a0 : ((at16 ys 0 : Nat) : Int) = fr := by rw [hys]; exact udpH_fr _ _ _ _ _ ⟨h4, h4b⟩
    have a2 : ((at16 ys 2 : Nat) : Int) = tp := by rw [hys]; exact udpH_tp _ _ _ _ _ ⟨h5, h5b⟩
    have a4 : at16 ys 4 = 8 + db.length := by rw [hys]; exact udpH_n _ _ _ _ _ (by omega)
    have a6 : ¬ at16 ys 6 = 0 := by
      rw [hys, udpH_s]
      rw [put_sum _ (ofL_le _)]; exact hS
    have e8 : List.drop 8 ys = db := by rw [hys]; rfl
    have hs : ofL (UInt8.ofNat (Int.toNat f0) :: UInt8.ofNat (Int.toNat f1) :: UInt8.ofNat (Int.toNat f2) :: UInt8.ofNat (Int.toNat f3) :: UInt8.ofNat (Int.toNat t0) :: UInt8.ofNat (Int.toNat t1) :: UInt8.ofNat (Int.toNat t2) :: UInt8.ofNat (Int.toNat t3) :: (0 : UInt8) :: (17 : UInt8) :: lo8 ((8 + (db.length : Int)) / 256) :: lo8 (8 + (db.length : Int)) :: ys) = 0 := by
      rw [hys]
      exact udpH_sum _ _ _ _ _ _ _ _ _ _ _ _ _ _ _ _ _ (put_sum _ (ofL_le _))
    have hu := hS
    simp only [udpH] at hu
    have hz : Int.toNat (8 + (db.length : Int)) = 8 + db.length := by omega
    cases h7 : (bif part == (0 : Int) then bits BinOp.and IntKind.i64 flags (1 : Int) == (0 : Int) else false)
    case false =>
      refine ⟨_, _, (outT_ok k69_ok (udpWrites_part1 tos id flags part ttl proto f0 f1 f2 f3 t0 t1 t2 t3 opts body fr tp db ys) ?_).1⟩
      repeat' (first | exact allNil | refine allCons ?_ ?_)
      all_goals first | exact True.intro | (with_reducible exact id) | (intros; with_reducible assumption) | omega | exact h7 | (rw [h7]; rfl) | (simp (disch := first | omega | (simp; omega)) [wu8, lo8_raw, fd256, w64, take_len, hS, hys, udpH]; done) | (simp; done) | (simp; omega) | (simp (disch := first | omega | (simp; omega)) [str_toList, wu8, isB, lo8_raw, fd256, fd65536, fd16777216, w64, sameO_iff, lo8_mod, lo8_mod2, div_div, and_u32_65535, take_len, a0, a2, a4, a6, hl, ht, hs, hu, hz, e8]; done) | (simp (disch := first | omega | (simp; omega)) [str_toList, wu8, isB, lo8_raw, fd256, fd65536, fd16777216, w64, sameO_iff, lo8_mod, lo8_mod2, div_div, and_u32_65535, take_len, a0, a2, a4, a6, hl, ht, hs, hu, hz, e8]; omega)
    refine ⟨_, _, ((outT_ok k69_ok (udpWrites_ok1 tos id flags part ttl proto f0 f1 f2 f3 t0 t1 t2 t3 opts body fr tp db ys) ?_).1).truly ?_⟩
    · repeat' (first | exact allNil | refine allCons ?_ ?_)
      all_goals first | exact True.intro | (with_reducible exact id) | (intros; with_reducible assumption) | omega | exact h7 | (rw [h7]; rfl) | (simp (disch := first | omega | (simp; omega)) [wu8, lo8_raw, fd256, w64, take_len, hS, hys, udpH]; done) | (simp; done) | (simp; omega) | (simp (disch := first | omega | (simp; omega)) [str_toList, wu8, isB, lo8_raw, fd256, fd65536, fd16777216, w64, sameO_iff, lo8_mod, lo8_mod2, div_div, and_u32_65535, take_len, a0, a2, a4, a6, hl, ht, hs, hu, hz, e8]; done) | (simp (disch := first | omega | (simp; omega)) [str_toList, wu8, isB, lo8_raw, fd256, fd65536, fd16777216, w64, sameO_iff, lo8_mod, lo8_mod2, div_div, and_u32_65535, take_len, a0, a2, a4, a6, hl, ht, hs, hu, hz, e8]; omega)
    · simp (disch := first | omega | (simp; omega)) [str_toList, w64, take_len, a4, hl, ht, e8]
end Go.Proofs.Ytoekncmggjhmjaa.udpWrites
