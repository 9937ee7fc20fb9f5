/- The law UdpSpoilt, walked: whatever is given, it answers true. -/
import Derived.Test.YtoekncmggjhmjaaUsRun
import Derived.Test.YtoekncmggjhmjaaBit
namespace Go.Proofs.Ytoekncmggjhmjaa.udpSpoilt
open Go.RowKit

set_option maxHeartbeats 4000000 in
theorem walk (fr tp : Int) (db : List UInt8) (bit : Int) (hbit : -9223372036854775808 ≤ bit ∧ bit ≤ 9223372036854775807) :
    ∃ L' nx', ACall Try.prog 10 [.agg [.val (.int .i64 fr), .val (.int .i64 tp), .bytes db], .val (.int .i64 bit)] [] 0 (.val (.bool true)) L' nx' := by
  by_cases h1 : 600 < db.length
  · refine ⟨_, _, (outT_ok k69_ok (udpSpoilt_big fr tp db bit) ?_).1⟩
    repeat' (first | exact allNil | refine allCons ?_ ?_)
    all_goals first | exact True.intro | (with_reducible exact id) | (intros; with_reducible assumption) | omega | (simp; done) | (simp; omega) | (simp (disch := first | omega | (simp; omega)) [str_toList, wu8, isB, lo8_raw, fd256, fd65536, fd16777216, w64, sameO_iff, lo8_mod, lo8_mod2, div_div, and_u32_65535, take_len]; done) | (simp (disch := first | omega | (simp; omega)) [str_toList, wu8, isB, lo8_raw, fd256, fd65536, fd16777216, w64, sameO_iff, lo8_mod, lo8_mod2, div_div, and_u32_65535, take_len]; omega)
  by_cases h4 : 0 ≤ fr ∧ fr ≤ 65535
  case neg =>
    refine ⟨_, _, (outT_ok k69_ok (udpSpoilt_arg1 fr tp db bit) ?_).1⟩
    repeat' (first | exact allNil | refine allCons ?_ ?_)
    all_goals first | exact True.intro | (with_reducible exact id) | (intros; with_reducible assumption) | omega | (simp; done) | (simp; omega) | (simp (disch := first | omega | (simp; omega)) [str_toList, wu8, isB, lo8_raw, fd256, fd65536, fd16777216, w64, sameO_iff, lo8_mod, lo8_mod2, div_div, and_u32_65535, take_len]; done) | (simp (disch := first | omega | (simp; omega)) [str_toList, wu8, isB, lo8_raw, fd256, fd65536, fd16777216, w64, sameO_iff, lo8_mod, lo8_mod2, div_div, and_u32_65535, take_len]; omega)
  by_cases h5 : 0 ≤ tp ∧ tp ≤ 65535
  case neg =>
    obtain ⟨h4, h4b⟩ := h4
    refine ⟨_, _, (outT_ok k69_ok (udpSpoilt_arg2 fr tp db bit) ?_).1⟩
    repeat' (first | exact allNil | refine allCons ?_ ?_)
    all_goals first | exact True.intro | (with_reducible exact id) | (intros; with_reducible assumption) | omega | (simp; done) | (simp; omega) | (simp (disch := first | omega | (simp; omega)) [str_toList, wu8, isB, lo8_raw, fd256, fd65536, fd16777216, w64, sameO_iff, lo8_mod, lo8_mod2, div_div, and_u32_65535, take_len]; done) | (simp (disch := first | omega | (simp; omega)) [str_toList, wu8, isB, lo8_raw, fd256, fd65536, fd16777216, w64, sameO_iff, lo8_mod, lo8_mod2, div_div, and_u32_65535, take_len]; omega)
  obtain ⟨h4, h4b⟩ := h4
  obtain ⟨h5, h5b⟩ := h5
  by_cases hS : ofL ((10 : UInt8) :: (0 : UInt8) :: (0 : UInt8) :: (1 : UInt8) :: (10 : UInt8) :: (0 : UInt8) :: (0 : UInt8) :: (2 : UInt8) :: (0 : UInt8) :: (17 : UInt8) :: lo8 ((8 + (db.length : Int)) / 256) :: lo8 (8 + (db.length : Int)) :: udpH fr tp db 0 0) = 0
  case pos =>
    obtain ⟨ys, hys⟩ : ∃ ys, ys = udpH fr tp db 255 255 := ⟨_, rfl⟩
    have hl : ys.length = 8 + db.length := by rw [hys]; exact udpH_len ..
    have ht : List.take (8 + db.length) ys = ys := List.take_of_length_le (by omega)
    have hS2 := hS
    simp only [udpH] at hS2
    have a4 : at16 ys 4 = 8 + db.length := by rw [hys]; exact udpH_n _ _ _ _ _ (by omega)
    have hs : ofL ((10 : UInt8) :: (0 : UInt8) :: (0 : UInt8) :: (1 : UInt8) :: (10 : UInt8) :: (0 : UInt8) :: (0 : UInt8) :: (2 : UInt8) :: (0 : UInt8) :: (17 : UInt8) :: lo8 ((8 + (db.length : Int)) / 256) :: lo8 (8 + (db.length : Int)) :: ys) = 0 := by
      rw [hys]
      exact udpH_sum1 _ _ _ _ _ _ _ _ _ _ _ _ _ _ _ hS
    by_cases c1 : bit < 0
    · refine ⟨_, _, (outT_ok k69_ok (udpSpoilt_low0 fr tp db bit ys) ?_).1⟩
      repeat' (first | exact allNil | refine allCons ?_ ?_)
      all_goals first | exact True.intro | (with_reducible exact id) | (intros; with_reducible assumption) | omega | (simp (disch := first | omega | (simp; omega)) [wu8, lo8_raw, fd256, w64, take_len, hys, udpH]; done) | (simp; done) | (simp; omega) | (simp (disch := first | omega | (simp; omega)) [wu8, isB, lo8_raw, fd256, w64, sameO_iff, take_len, hS2]; done) | (simp (disch := first | omega | (simp; omega)) [wu8, isB, fd256, w64]; omega)
    by_cases c2 : 8 * (8 + (db.length : Int)) ≤ bit
    · refine ⟨_, _, (outT_ok k69_ok (udpSpoilt_high0 fr tp db bit ys) ?_).1⟩
      repeat' (first | exact allNil | refine allCons ?_ ?_)
      all_goals first | exact True.intro | (with_reducible exact id) | (intros; with_reducible assumption) | omega | (simp (disch := first | omega | (simp; omega)) [wu8, lo8_raw, fd256, w64, take_len, hys, udpH]; done) | (simp; done) | (simp; omega) | (simp (disch := first | omega | (simp; omega)) [wu8, isB, lo8_raw, fd256, w64, sameO_iff, take_len, hS2]; done) | (simp (disch := first | omega | (simp; omega)) [wu8, isB, fd256, w64]; omega)
    have hq := bit_q bit (by omega) (by omega)
    by_cases c3 : bit / 8 = 4
    · refine ⟨_, _, (outT_ok k69_ok (udpSpoilt_at40 fr tp db bit ys) ?_).1⟩
      repeat' (first | exact allNil | refine allCons ?_ ?_)
      all_goals first | exact True.intro | (with_reducible exact id) | (intros; with_reducible assumption) | omega | (simp (disch := first | omega | (simp; omega)) [wu8, lo8_raw, fd256, w64, take_len, hys, udpH]; done) | (simp; done) | (simp; omega) | (simp (disch := first | omega | (simp; omega)) [wu8, isB, lo8_raw, fd256, w64, sameO_iff, take_len, hS2]; done) | (simp (disch := first | omega | (simp; omega)) [wu8, isB, fd256, w64]; omega)
    by_cases c4 : bit / 8 = 5
    · refine ⟨_, _, (outT_ok k69_ok (udpSpoilt_at50 fr tp db bit ys) ?_).1⟩
      repeat' (first | exact allNil | refine allCons ?_ ?_)
      all_goals first | exact True.intro | (with_reducible exact id) | (intros; with_reducible assumption) | omega | (simp (disch := first | omega | (simp; omega)) [wu8, lo8_raw, fd256, w64, take_len, hys, udpH]; done) | (simp; done) | (simp; omega) | (simp (disch := first | omega | (simp; omega)) [wu8, isB, lo8_raw, fd256, w64, sameO_iff, take_len, hS2]; done) | (simp (disch := first | omega | (simp; omega)) [wu8, isB, fd256, w64]; omega)
    have hj := bit_j bit (by omega) (by omega)
    obtain ⟨j, hj2⟩ : ∃ j, bit.toNat / 8 = j := ⟨_, rfl⟩
    have hjl : j < ys.length := by omega
    obtain ⟨zs, hzs⟩ : ∃ zs, List.set (List.take ((8 : Nat) + List.length db) ys) ((0 : Nat) + Int.toNat (IntKind.wrap IntKind.i64 (Int.tdiv bit (8 : Int)))) (UInt8.ofNat (Int.toNat (bits BinOp.xor IntKind.u8 (↑(UInt8.toNat (List.getD (List.take ((8 : Nat) + List.length db) ys) ((0 : Nat) + Int.toNat (IntKind.wrap IntKind.i64 (Int.tdiv bit (8 : Int)))) (0 : UInt8))) : Int) (IntKind.wrap IntKind.u8 ((1 : Int) * (2 : Int) ^ min (Int.toNat (IntKind.wrap IntKind.u64 (bits BinOp.and IntKind.i64 bit (7 : Int)))) (8 : Nat)))))) = zs := ⟨_, rfl⟩
    have hzz : zs = ys.set j (UInt8.ofNat (Int.toNat (bits BinOp.xor IntKind.u8 ((ys.getD j 0).toNat : Int) ((2 ^ (bit.toNat % 8) : Nat) : Int)))) := by
      rw [← hzs, hj, hj2, ht, bit_pow bit (by omega)]
    have hx := xor_turned (ys.getD j 0) (bit.toNat % 8) (by omega)
    have hg : ys[j]? = some (ys.getD j 0) := by rw [List.getD_eq_getElem?_getD, List.getElem?_eq_getElem hjl]; rfl
    have hbd := xor_bd ((ys.getD j 0).toNat : Int) ((2 ^ (bit.toNat % 8) : Nat) : Int)
    have hpow := bit_pow bit (by omega)
    have zl : zs.length = 8 + db.length := by rw [hzz, List.length_set]; exact hl
    have zt : List.take (8 + db.length) zs = zs := List.take_of_length_le (by omega)
    have z4 : at16 zs 4 = 8 + db.length := by rw [hzz, at16_set _ _ _ _ (by omega) (by omega) (by omega)]; exact a4
    have hz : Int.toNat (8 + (db.length : Int)) = 8 + db.length := by omega
    have zs0 : ¬ ofL ((10 : UInt8) :: (0 : UInt8) :: (0 : UInt8) :: (1 : UInt8) :: (10 : UInt8) :: (0 : UInt8) :: (0 : UInt8) :: (2 : UInt8) :: (0 : UInt8) :: (17 : UInt8) :: lo8 ((8 + (db.length : Int)) / 256) :: lo8 (8 + (db.length : Int)) :: zs) = 0 := by
      rw [hzz]
      exact ofL_turned_pre ([(10 : UInt8), (0 : UInt8), (0 : UInt8), (1 : UInt8), (10 : UInt8), (0 : UInt8), (0 : UInt8), (2 : UInt8), (0 : UInt8), (17 : UInt8), lo8 ((8 + (db.length : Int)) / 256), lo8 (8 + (db.length : Int))]) ys j _ _ hg hx hs
    by_cases c6 : at16 zs 6 = 0
    case neg =>
      refine ⟨_, _, (outT_ok k69_ok (udpSpoilt_sum0 fr tp db bit ys) ?_).1⟩
      repeat' (first | exact allNil | refine allCons ?_ ?_)
      all_goals ((try simp only [hzs]) <;> (first | exact True.intro | (with_reducible exact id) | (intros; with_reducible assumption) | omega | (simp (disch := first | omega | (simp; omega)) [wu8, lo8_raw, fd256, w64, take_len, hys, udpH]; done) | (rw [hj, hj2, ht, hpow]; exact hbd) | exact wrap_u64_nonneg _ | (simp only [hj, hj2, ht, hl]; omega) | (simp; done) | (simp; omega) | (simp (disch := first | omega | (simp; omega)) [wu8, isB, lo8_raw, fd256, w64, sameO_iff, take_len, hS2, zl, z4, zs0, c6]; done) | (simp (disch := first | omega | (simp; omega)) [wu8, isB, lo8_raw, fd256, w64, take_len, zl, z4]; omega)))
    exfalso
    have hx2 : ∀ x : UInt8, Turned 255 x → x.toNat ≠ 0 := by
      intro x ⟨k, hk, e⟩ hx0
      have := two_pow_le k hk
      have : (255 : UInt8).toNat = 255 := rfl
      omega
    have y6 : ys[6]? = some 255 := by rw [hys]; rfl
    have y7 : ys[7]? = some 255 := by rw [hys]; rfl
    by_cases d6 : j = 6
    · subst d6
      have g7 : zs[7]? = some 255 := by rw [hzz, List.getElem?_set_ne (by omega)]; exact y7
      have g6 : ∃ a, zs[6]? = some a := ⟨_, List.getElem?_eq_getElem (by omega)⟩
      obtain ⟨a, g6⟩ := g6
      have := at16_two zs 6 _ _ g6 g7
      have : (255 : UInt8).toNat = 255 := rfl
      omega
    · have g6 : zs[6]? = some 255 := by rw [hzz, List.getElem?_set_ne (by omega)]; exact y6
      have g7 : ∃ a, zs[7]? = some a := ⟨_, List.getElem?_eq_getElem (by omega)⟩
      obtain ⟨a, g7⟩ := g7
      have := at16_two zs 6 _ _ g6 g7
      have : (255 : UInt8).toNat = 255 := rfl
      omega
  case neg =>
    obtain ⟨ys, hys⟩ : ∃ ys, ys = udpH fr tp db (lo8 ((ofL ((10 : UInt8) :: (0 : UInt8) :: (0 : UInt8) :: (1 : UInt8) :: (10 : UInt8) :: (0 : UInt8) :: (0 : UInt8) :: (2 : UInt8) :: (0 : UInt8) :: (17 : UInt8) :: lo8 ((8 + (db.length : Int)) / 256) :: lo8 (8 + (db.length : Int)) :: udpH fr tp db 0 0) : Nat) / 256)) (lo8 (ofL ((10 : UInt8) :: (0 : UInt8) :: (0 : UInt8) :: (1 : UInt8) :: (10 : UInt8) :: (0 : UInt8) :: (0 : UInt8) :: (2 : UInt8) :: (0 : UInt8) :: (17 : UInt8) :: lo8 ((8 + (db.length : Int)) / 256) :: lo8 (8 + (db.length : Int)) :: udpH fr tp db 0 0) : Nat)) := ⟨_, rfl⟩
    have hl : ys.length = 8 + db.length := by rw [hys]; exact udpH_len ..
    have ht : List.take (8 + db.length) ys = ys := List.take_of_length_le (by omega)
    have hS2 := hS
    simp only [udpH] at hS2
    have a4 : at16 ys 4 = 8 + db.length := by rw [hys]; exact udpH_n _ _ _ _ _ (by omega)
    have hs : ofL ((10 : UInt8) :: (0 : UInt8) :: (0 : UInt8) :: (1 : UInt8) :: (10 : UInt8) :: (0 : UInt8) :: (0 : UInt8) :: (2 : UInt8) :: (0 : UInt8) :: (17 : UInt8) :: lo8 ((8 + (db.length : Int)) / 256) :: lo8 (8 + (db.length : Int)) :: ys) = 0 := by
      rw [hys]
      exact udpH_sum _ _ _ _ _ _ _ _ _ _ _ _ _ _ _ _ _ (put_sum _ (ofL_le _))
    by_cases c1 : bit < 0
    · refine ⟨_, _, (outT_ok k69_ok (udpSpoilt_low fr tp db bit ys) ?_).1⟩
      repeat' (first | exact allNil | refine allCons ?_ ?_)
      all_goals first | exact True.intro | (with_reducible exact id) | (intros; with_reducible assumption) | omega | (simp (disch := first | omega | (simp; omega)) [wu8, lo8_raw, fd256, w64, take_len, hys, udpH]; done) | (simp; done) | (simp; omega) | (simp (disch := first | omega | (simp; omega)) [wu8, isB, lo8_raw, fd256, w64, sameO_iff, take_len, hS2]; done) | (simp (disch := first | omega | (simp; omega)) [wu8, isB, lo8_raw, fd256, w64, take_len]; omega)
    by_cases c2 : 8 * (8 + (db.length : Int)) ≤ bit
    · refine ⟨_, _, (outT_ok k69_ok (udpSpoilt_high fr tp db bit ys) ?_).1⟩
      repeat' (first | exact allNil | refine allCons ?_ ?_)
      all_goals first | exact True.intro | (with_reducible exact id) | (intros; with_reducible assumption) | omega | (simp (disch := first | omega | (simp; omega)) [wu8, lo8_raw, fd256, w64, take_len, hys, udpH]; done) | (simp; done) | (simp; omega) | (simp (disch := first | omega | (simp; omega)) [wu8, isB, lo8_raw, fd256, w64, sameO_iff, take_len, hS2]; done) | (simp (disch := first | omega | (simp; omega)) [wu8, isB, lo8_raw, fd256, w64, take_len]; omega)
    have hq := bit_q bit (by omega) (by omega)
    by_cases c3 : bit / 8 = 4
    · refine ⟨_, _, (outT_ok k69_ok (udpSpoilt_at4 fr tp db bit ys) ?_).1⟩
      repeat' (first | exact allNil | refine allCons ?_ ?_)
      all_goals first | exact True.intro | (with_reducible exact id) | (intros; with_reducible assumption) | omega | (simp (disch := first | omega | (simp; omega)) [wu8, lo8_raw, fd256, w64, take_len, hys, udpH]; done) | (simp; done) | (simp; omega) | (simp (disch := first | omega | (simp; omega)) [wu8, isB, lo8_raw, fd256, w64, sameO_iff, take_len, hS2]; done) | (simp (disch := first | omega | (simp; omega)) [wu8, isB, lo8_raw, fd256, w64, take_len]; omega)
    by_cases c4 : bit / 8 = 5
    · refine ⟨_, _, (outT_ok k69_ok (udpSpoilt_at5 fr tp db bit ys) ?_).1⟩
      repeat' (first | exact allNil | refine allCons ?_ ?_)
      all_goals first | exact True.intro | (with_reducible exact id) | (intros; with_reducible assumption) | omega | (simp (disch := first | omega | (simp; omega)) [wu8, lo8_raw, fd256, w64, take_len, hys, udpH]; done) | (simp; done) | (simp; omega) | (simp (disch := first | omega | (simp; omega)) [wu8, isB, lo8_raw, fd256, w64, sameO_iff, take_len, hS2]; done) | (simp (disch := first | omega | (simp; omega)) [wu8, isB, lo8_raw, fd256, w64, take_len]; omega)
    have hj := bit_j bit (by omega) (by omega)
    obtain ⟨j, hj2⟩ : ∃ j, bit.toNat / 8 = j := ⟨_, rfl⟩
    have hjl : j < ys.length := by omega
    obtain ⟨zs, hzs⟩ : ∃ zs, List.set (List.take ((8 : Nat) + List.length db) ys) ((0 : Nat) + Int.toNat (IntKind.wrap IntKind.i64 (Int.tdiv bit (8 : Int)))) (UInt8.ofNat (Int.toNat (bits BinOp.xor IntKind.u8 (↑(UInt8.toNat (List.getD (List.take ((8 : Nat) + List.length db) ys) ((0 : Nat) + Int.toNat (IntKind.wrap IntKind.i64 (Int.tdiv bit (8 : Int)))) (0 : UInt8))) : Int) (IntKind.wrap IntKind.u8 ((1 : Int) * (2 : Int) ^ min (Int.toNat (IntKind.wrap IntKind.u64 (bits BinOp.and IntKind.i64 bit (7 : Int)))) (8 : Nat)))))) = zs := ⟨_, rfl⟩
    have hzz : zs = ys.set j (UInt8.ofNat (Int.toNat (bits BinOp.xor IntKind.u8 ((ys.getD j 0).toNat : Int) ((2 ^ (bit.toNat % 8) : Nat) : Int)))) := by
      rw [← hzs, hj, hj2, ht, bit_pow bit (by omega)]
    have hx := xor_turned (ys.getD j 0) (bit.toNat % 8) (by omega)
    have hg : ys[j]? = some (ys.getD j 0) := by rw [List.getD_eq_getElem?_getD, List.getElem?_eq_getElem hjl]; rfl
    have hbd := xor_bd ((ys.getD j 0).toNat : Int) ((2 ^ (bit.toNat % 8) : Nat) : Int)
    have hpow := bit_pow bit (by omega)
    have zl : zs.length = 8 + db.length := by rw [hzz, List.length_set]; exact hl
    have zt : List.take (8 + db.length) zs = zs := List.take_of_length_le (by omega)
    have z4 : at16 zs 4 = 8 + db.length := by rw [hzz, at16_set _ _ _ _ (by omega) (by omega) (by omega)]; exact a4
    have hz : Int.toNat (8 + (db.length : Int)) = 8 + db.length := by omega
    have zs0 : ¬ ofL ((10 : UInt8) :: (0 : UInt8) :: (0 : UInt8) :: (1 : UInt8) :: (10 : UInt8) :: (0 : UInt8) :: (0 : UInt8) :: (2 : UInt8) :: (0 : UInt8) :: (17 : UInt8) :: lo8 ((8 + (db.length : Int)) / 256) :: lo8 (8 + (db.length : Int)) :: zs) = 0 := by
      rw [hzz]
      exact ofL_turned_pre ([(10 : UInt8), (0 : UInt8), (0 : UInt8), (1 : UInt8), (10 : UInt8), (0 : UInt8), (0 : UInt8), (2 : UInt8), (0 : UInt8), (17 : UInt8), lo8 ((8 + (db.length : Int)) / 256), lo8 (8 + (db.length : Int))]) ys j _ _ hg hx hs
    by_cases c6 : at16 zs 6 = 0
    case neg =>
      refine ⟨_, _, (outT_ok k69_ok (udpSpoilt_sum fr tp db bit ys) ?_).1⟩
      repeat' (first | exact allNil | refine allCons ?_ ?_)
      all_goals ((try simp only [hzs]) <;> (first | exact True.intro | (with_reducible exact id) | (intros; with_reducible assumption) | omega | (simp (disch := first | omega | (simp; omega)) [wu8, lo8_raw, fd256, w64, take_len, hys, udpH]; done) | (rw [hj, hj2, ht, hpow]; exact hbd) | exact wrap_u64_nonneg _ | (simp only [hj, hj2, ht, hl]; omega) | (simp; done) | (simp; omega) | (simp (disch := first | omega | (simp; omega)) [wu8, isB, lo8_raw, fd256, w64, sameO_iff, take_len, hS2, zl, z4, zs0, c6]; done) | (simp (disch := first | omega | (simp; omega)) [wu8, isB, lo8_raw, fd256, w64, take_len, zl, z4]; omega)))
    have c67 := at16_zero zs 6 (by omega) c6
    obtain ⟨c66, c77⟩ := c67
    refine ⟨_, _, (outT_ok k69_ok (udpSpoilt_none fr tp db bit ys) ?_).1⟩
    repeat' (first | exact allNil | refine allCons ?_ ?_)
    all_goals ((try simp only [hzs]) <;> (first | exact True.intro | (with_reducible exact id) | (intros; with_reducible assumption) | omega | (simp (disch := first | omega | (simp; omega)) [wu8, lo8_raw, fd256, w64, take_len, hys, udpH]; done) | (rw [hj, hj2, ht, hpow]; exact hbd) | exact wrap_u64_nonneg _ | (simp only [hj, hj2, ht, hl]; omega) | (simp only [c66]; rfl) | (simp only [c77]; rfl) | (simp; done) | (simp; omega) | (simp (disch := first | omega | (simp; omega)) [wu8, isB, lo8_raw, fd256, w64, sameO_iff, take_len, hS2, zl, z4, c6]; done) | (simp (disch := first | omega | (simp; omega)) [wu8, isB, lo8_raw, fd256, w64, take_len, zl, z4]; omega)))
end Go.Proofs.Ytoekncmggjhmjaa.udpSpoilt
