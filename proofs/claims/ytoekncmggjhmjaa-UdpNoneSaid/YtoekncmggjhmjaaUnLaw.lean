/- The law UdpNone, walked: whatever is given, it answers true. -/
import Derived.Test.YtoekncmggjhmjaaUnRun
import Derived.Test.YtoekncmggjhmjaaUdpB
namespace Go.Proofs.Ytoekncmggjhmjaa.udpNone
open Go.RowKit

set_option maxHeartbeats 4000000 in
theorem walk (fr tp : Int) (db nb more : List UInt8) :
    ∃ L' nx', ACall Try.prog 11 [.agg [.val (.int .i64 fr), .val (.int .i64 tp), .bytes db], .bytes nb, .bytes more] [] 0 (.val (.bool true)) L' nx' := by
  by_cases h1 : 500 < db.length
  · refine ⟨_, _, (outT_ok k69_ok (udpNone_big1 fr tp db nb more) ?_).1⟩
    repeat' (first | exact allNil | refine allCons ?_ ?_)
    all_goals first | exact True.intro | (with_reducible exact id) | (intros; with_reducible assumption) | omega | (simp; done) | (simp; omega) | (simp (disch := first | omega | (simp; omega)) [str_toList, wu8, isB, lo8_raw, fd256, fd65536, fd16777216, w64, sameO_iff, lo8_mod, lo8_mod2, div_div, and_u32_65535, take_len]; done) | (simp (disch := first | omega | (simp; omega)) [str_toList, wu8, isB, lo8_raw, fd256, fd65536, fd16777216, w64, sameO_iff, lo8_mod, lo8_mod2, div_div, and_u32_65535, take_len]; omega)
  by_cases h2 : nb.length = db.length
  case neg =>
    refine ⟨_, _, (outT_ok k69_ok (udpNone_big2 fr tp db nb more) ?_).1⟩
    repeat' (first | exact allNil | refine allCons ?_ ?_)
    all_goals first | exact True.intro | (with_reducible exact id) | (intros; with_reducible assumption) | omega | (simp; done) | (simp; omega) | (simp (disch := first | omega | (simp; omega)) [str_toList, wu8, isB, lo8_raw, fd256, fd65536, fd16777216, w64, sameO_iff, lo8_mod, lo8_mod2, div_div, and_u32_65535, take_len]; done) | (simp (disch := first | omega | (simp; omega)) [str_toList, wu8, isB, lo8_raw, fd256, fd65536, fd16777216, w64, sameO_iff, lo8_mod, lo8_mod2, div_div, and_u32_65535, take_len]; omega)
  by_cases h3 : 50 < more.length
  · refine ⟨_, _, (outT_ok k69_ok (udpNone_big3 fr tp db nb more) ?_).1⟩
    repeat' (first | exact allNil | refine allCons ?_ ?_)
    all_goals first | exact True.intro | (with_reducible exact id) | (intros; with_reducible assumption) | omega | (simp; done) | (simp; omega) | (simp (disch := first | omega | (simp; omega)) [str_toList, wu8, isB, lo8_raw, fd256, fd65536, fd16777216, w64, sameO_iff, lo8_mod, lo8_mod2, div_div, and_u32_65535, take_len]; done) | (simp (disch := first | omega | (simp; omega)) [str_toList, wu8, isB, lo8_raw, fd256, fd65536, fd16777216, w64, sameO_iff, lo8_mod, lo8_mod2, div_div, and_u32_65535, take_len]; omega)
  by_cases h4 : 0 ≤ fr ∧ fr ≤ 65535
  case neg =>
    refine ⟨_, _, (outT_ok k69_ok (udpNone_arg1 fr tp db nb more) ?_).1⟩
    repeat' (first | exact allNil | refine allCons ?_ ?_)
    all_goals first | exact True.intro | (with_reducible exact id) | (intros; with_reducible assumption) | omega | (simp; done) | (simp; omega) | (simp (disch := first | omega | (simp; omega)) [str_toList, wu8, isB, lo8_raw, fd256, fd65536, fd16777216, w64, sameO_iff, lo8_mod, lo8_mod2, div_div, and_u32_65535, take_len]; done) | (simp (disch := first | omega | (simp; omega)) [str_toList, wu8, isB, lo8_raw, fd256, fd65536, fd16777216, w64, sameO_iff, lo8_mod, lo8_mod2, div_div, and_u32_65535, take_len]; omega)
  by_cases h5 : 0 ≤ tp ∧ tp ≤ 65535
  case neg =>
    obtain ⟨h4, h4b⟩ := h4
    refine ⟨_, _, (outT_ok k69_ok (udpNone_arg2 fr tp db nb more) ?_).1⟩
    repeat' (first | exact allNil | refine allCons ?_ ?_)
    all_goals first | exact True.intro | (with_reducible exact id) | (intros; with_reducible assumption) | omega | (simp; done) | (simp; omega) | (simp (disch := first | omega | (simp; omega)) [str_toList, wu8, isB, lo8_raw, fd256, fd65536, fd16777216, w64, sameO_iff, lo8_mod, lo8_mod2, div_div, and_u32_65535, take_len]; done) | (simp (disch := first | omega | (simp; omega)) [str_toList, wu8, isB, lo8_raw, fd256, fd65536, fd16777216, w64, sameO_iff, lo8_mod, lo8_mod2, div_div, and_u32_65535, take_len]; omega)
  obtain ⟨h4, h4b⟩ := h4
  obtain ⟨h5, h5b⟩ := h5
  by_cases hS : ofL ((10 : UInt8) :: (0 : UInt8) :: (0 : UInt8) :: (1 : UInt8) :: (10 : UInt8) :: (0 : UInt8) :: (0 : UInt8) :: (2 : UInt8) :: (0 : UInt8) :: (17 : UInt8) :: lo8 ((8 + (db.length : Int)) / 256) :: lo8 (8 + (db.length : Int)) :: udpH fr tp db 0 0) = 0
  case pos =>
    obtain ⟨ys, hys⟩ : ∃ ys, ys = udpH fr tp db 255 255 := ⟨_, rfl⟩
    have hl : ys.length = 8 + db.length := by rw [hys]; exact udpH_len ..
    have ht : List.take (8 + db.length) ys = ys := List.take_of_length_le (by omega)
    obtain ⟨zs, hzs⟩ : ∃ zs, List.set (List.set (List.take (8 : Nat) ys ++ nb) (6 : Nat) (0 : UInt8)) (7 : Nat) (0 : UInt8) ++ more = zs := ⟨_, rfl⟩
    have hzs2 : zs = udpH fr tp nb 0 0 ++ more := by
      rw [← hzs, hys]
      simp [udpH, h2]
    have zl : zs.length = 8 + nb.length + more.length := by rw [hzs2, List.length_append, udpH_len]
    have zt : List.take (8 + nb.length + more.length) zs = zs := List.take_of_length_le (by omega)
    have a0 : ((at16 zs 0 : Nat) : Int) = fr := by rw [hzs2]; exact at16_lo _ 0 fr ⟨h4, h4b⟩ rfl rfl
    have a2 : ((at16 zs 2 : Nat) : Int) = tp := by rw [hzs2]; exact at16_lo _ 2 tp ⟨h5, h5b⟩ rfl rfl
    have a4 : at16 zs 4 = 8 + nb.length := by
      have := at16_lo (udpH fr tp nb 0 0 ++ more) 4 (8 + (nb.length : Int)) (by omega) rfl rfl
      rw [hzs2]; omega
    have a6 : at16 zs 6 = 0 := by rw [hzs2]; exact at16_two _ 6 0 0 rfl rfl
    have e8 : List.drop 8 zs = nb ++ more := by rw [hzs2]; rfl
    have hu := hS
    simp only [udpH] at hu
    have hz : Int.toNat (8 + (nb.length : Int)) = 8 + nb.length := by omega
    refine ⟨_, _, ((outT_ok k69_ok (udpNone_ok0 fr tp db nb more ys) ?_).1).truly ?_⟩
    · repeat' (first | exact allNil | refine allCons ?_ ?_)
      all_goals ((try simp only [hzs]) <;> (first | exact True.intro | (with_reducible exact id) | (intros; with_reducible assumption) | omega | (simp (disch := first | omega | (simp; omega)) [wu8, lo8_raw, fd256, w64, take_len, hS, hys, udpH]; done) | (simp; done) | (simp; omega) | (simp (disch := first | omega | (simp; omega)) [str_toList, wu8, isB, lo8_raw, fd256, fd65536, fd16777216, w64, sameO_iff, lo8_mod, lo8_mod2, div_div, and_u32_65535, take_len, a0, a2, a4, a6, hl, ht, zl, zt, hu, hz, e8]; done) | (simp (disch := first | omega | (simp; omega)) [str_toList, wu8, isB, lo8_raw, fd256, fd65536, fd16777216, w64, sameO_iff, lo8_mod, lo8_mod2, div_div, and_u32_65535, take_len, a0, a2, a4, a6, hl, ht, zl, zt, hu, hz, e8]; omega)))
    · simp only [hzs]; simp (disch := first | omega | (simp; omega)) [str_toList, w64, take_len, a4, zl, zt, e8]
  case neg =>
    obtain ⟨ys, hys⟩ : ∃ ys, ys = udpH fr tp db (lo8 ((ofL ((10 : UInt8) :: (0 : UInt8) :: (0 : UInt8) :: (1 : UInt8) :: (10 : UInt8) :: (0 : UInt8) :: (0 : UInt8) :: (2 : UInt8) :: (0 : UInt8) :: (17 : UInt8) :: lo8 ((8 + (db.length : Int)) / 256) :: lo8 (8 + (db.length : Int)) :: udpH fr tp db 0 0) : Nat) / 256)) (lo8 (ofL ((10 : UInt8) :: (0 : UInt8) :: (0 : UInt8) :: (1 : UInt8) :: (10 : UInt8) :: (0 : UInt8) :: (0 : UInt8) :: (2 : UInt8) :: (0 : UInt8) :: (17 : UInt8) :: lo8 ((8 + (db.length : Int)) / 256) :: lo8 (8 + (db.length : Int)) :: udpH fr tp db 0 0) : Nat)) := ⟨_, rfl⟩
    have hl : ys.length = 8 + db.length := by rw [hys]; exact udpH_len ..
    have ht : List.take (8 + db.length) ys = ys := List.take_of_length_le (by omega)
    obtain ⟨zs, hzs⟩ : ∃ zs, List.set (List.set (List.take (8 : Nat) ys ++ nb) (6 : Nat) (0 : UInt8)) (7 : Nat) (0 : UInt8) ++ more = zs := ⟨_, rfl⟩
    have hzs2 : zs = udpH fr tp nb 0 0 ++ more := by
      rw [← hzs, hys]
      simp [udpH, h2]
    have zl : zs.length = 8 + nb.length + more.length := by rw [hzs2, List.length_append, udpH_len]
    have zt : List.take (8 + nb.length + more.length) zs = zs := List.take_of_length_le (by omega)
    have a0 : ((at16 zs 0 : Nat) : Int) = fr := by rw [hzs2]; exact at16_lo _ 0 fr ⟨h4, h4b⟩ rfl rfl
    have a2 : ((at16 zs 2 : Nat) : Int) = tp := by rw [hzs2]; exact at16_lo _ 2 tp ⟨h5, h5b⟩ rfl rfl
    have a4 : at16 zs 4 = 8 + nb.length := by
      have := at16_lo (udpH fr tp nb 0 0 ++ more) 4 (8 + (nb.length : Int)) (by omega) rfl rfl
      rw [hzs2]; omega
    have a6 : at16 zs 6 = 0 := by rw [hzs2]; exact at16_two _ 6 0 0 rfl rfl
    have e8 : List.drop 8 zs = nb ++ more := by rw [hzs2]; rfl
    have hu := hS
    simp only [udpH] at hu
    have hz : Int.toNat (8 + (nb.length : Int)) = 8 + nb.length := by omega
    refine ⟨_, _, ((outT_ok k69_ok (udpNone_ok fr tp db nb more ys) ?_).1).truly ?_⟩
    · repeat' (first | exact allNil | refine allCons ?_ ?_)
      all_goals ((try simp only [hzs]) <;> (first | exact True.intro | (with_reducible exact id) | (intros; with_reducible assumption) | omega | (simp (disch := first | omega | (simp; omega)) [wu8, lo8_raw, fd256, w64, take_len, hS, hys, udpH]; done) | (simp; done) | (simp; omega) | (simp (disch := first | omega | (simp; omega)) [str_toList, wu8, isB, lo8_raw, fd256, fd65536, fd16777216, w64, sameO_iff, lo8_mod, lo8_mod2, div_div, and_u32_65535, take_len, a0, a2, a4, a6, hl, ht, zl, zt, hu, hz, e8]; done) | (simp (disch := first | omega | (simp; omega)) [str_toList, wu8, isB, lo8_raw, fd256, fd65536, fd16777216, w64, sameO_iff, lo8_mod, lo8_mod2, div_div, and_u32_65535, take_len, a0, a2, a4, a6, hl, ht, zl, zt, hu, hz, e8]; omega)))
    · simp only [hzs]; simp (disch := first | omega | (simp; omega)) [str_toList, w64, take_len, a4, zl, zt, e8]
end Go.Proofs.Ytoekncmggjhmjaa.udpNone
