/- The law Ip4Sizes, walked: whatever is given, it answers true. -/
import Derived.Test.YtoekncmggjhmjaaPsRun
import Derived.Test.YtoekncmggjhmjaaPm
namespace Go.Proofs.Ytoekncmggjhmjaa.ip4Sizes
open Go.RowKit

set_option maxHeartbeats 4000000 in
theorem walk (opts body : Int) (ho : -9223372036854775808 ≤ opts ∧ opts ≤ 9223372036854775807) (hb : -9223372036854775808 ≤ body ∧ body ≤ 9223372036854775807) :
    ∃ L' nx', ACall Try.prog 21 [.val (.int .i64 opts), .val (.int .i64 body)] [] 0 (.val (.bool true)) L' nx' := by
  by_cases h1 : opts < 0
  · refine ⟨_, _, (outT_ok k6s_ok (ip4Sizes_low opts body) ?_).1⟩
    repeat' (first | exact allNil | refine allCons ?_ ?_)
    all_goals first | exact True.intro | (with_reducible exact id) | (intros; with_reducible assumption) | omega | (simp; done) | (simp; omega) | (simp (disch := first | omega | (simp; omega)) [str_toList, wu8, isB, lo8_raw, fd256, fd65536, fd16777216, w64, sameO_iff, lo8_mod, lo8_mod2, div_div, and_u32_65535, take_len]; done) | (simp (disch := first | omega | (simp; omega)) [str_toList, wu8, isB, lo8_raw, fd256, fd65536, fd16777216, w64, sameO_iff, lo8_mod, lo8_mod2, div_div, and_u32_65535, take_len]; omega)
  by_cases h2 : 15 < opts
  · refine ⟨_, _, (outT_ok k6s_ok (ip4Sizes_high opts body) ?_).1⟩
    repeat' (first | exact allNil | refine allCons ?_ ?_)
    all_goals first | exact True.intro | (with_reducible exact id) | (intros; with_reducible assumption) | omega | (simp; done) | (simp; omega) | (simp (disch := first | omega | (simp; omega)) [str_toList, wu8, isB, lo8_raw, fd256, fd65536, fd16777216, w64, sameO_iff, lo8_mod, lo8_mod2, div_div, and_u32_65535, take_len]; done) | (simp (disch := first | omega | (simp; omega)) [str_toList, wu8, isB, lo8_raw, fd256, fd65536, fd16777216, w64, sameO_iff, lo8_mod, lo8_mod2, div_div, and_u32_65535, take_len]; omega)
  by_cases h3 : body < 0
  · refine ⟨_, _, (outT_ok k6s_ok (ip4Sizes_low2 opts body) ?_).1⟩
    repeat' (first | exact allNil | refine allCons ?_ ?_)
    all_goals first | exact True.intro | (with_reducible exact id) | (intros; with_reducible assumption) | omega | (simp; done) | (simp; omega) | (simp (disch := first | omega | (simp; omega)) [str_toList, wu8, isB, lo8_raw, fd256, fd65536, fd16777216, w64, sameO_iff, lo8_mod, lo8_mod2, div_div, and_u32_65535, take_len]; done) | (simp (disch := first | omega | (simp; omega)) [str_toList, wu8, isB, lo8_raw, fd256, fd65536, fd16777216, w64, sameO_iff, lo8_mod, lo8_mod2, div_div, and_u32_65535, take_len]; omega)
  by_cases h4 : 1600 < body
  · refine ⟨_, _, (outT_ok k6s_ok (ip4Sizes_high2 opts body) ?_).1⟩
    repeat' (first | exact allNil | refine allCons ?_ ?_)
    all_goals first | exact True.intro | (with_reducible exact id) | (intros; with_reducible assumption) | omega | (simp; done) | (simp; omega) | (simp (disch := first | omega | (simp; omega)) [str_toList, wu8, isB, lo8_raw, fd256, fd65536, fd16777216, w64, sameO_iff, lo8_mod, lo8_mod2, div_div, and_u32_65535, take_len]; done) | (simp (disch := first | omega | (simp; omega)) [str_toList, wu8, isB, lo8_raw, fd256, fd65536, fd16777216, w64, sameO_iff, lo8_mod, lo8_mod2, div_div, and_u32_65535, take_len]; omega)
  obtain ⟨o, rfl⟩ := Int.eq_ofNat_of_zero_le (show 0 ≤ opts by omega)
  obtain ⟨m, rfl⟩ := Int.eq_ofNat_of_zero_le (show 0 ≤ body by omega)
  have w1 : IntKind.wrap IntKind.i64 ((4 : Int) * (o : Int)) = ((4 * o : Nat) : Int) := by rw [w64 _ (by omega)]; omega
  have hm : Int.tmod ((4 * o : Nat) : Int) 4 = 0 := by rw [Int.tmod_eq_emod_of_nonneg (by omega)]; omega
  by_cases h5 : 10 < o
  · refine ⟨_, _, (outT_ok k6s_ok (ip4Sizes_arg (o : Int) (m : Int)) ?_).1⟩
    repeat' (first | exact allNil | refine allCons ?_ ?_)
    all_goals ((try simp only [w1]) <;> (first | exact True.intro | (with_reducible exact id) | (intros; with_reducible assumption) | omega | (simp; done) | (simp; omega) | (simp (disch := first | omega | (simp; omega)) [str_toList, wu8, isB, lo8_raw, fd256, fd65536, fd16777216, w64, sameO_iff, lo8_mod, lo8_mod2, div_div, and_u32_65535, take_len]; done) | (simp (disch := first | omega | (simp; omega)) [str_toList, wu8, isB, lo8_raw, fd256, fd65536, fd16777216, w64, sameO_iff, lo8_mod, lo8_mod2, div_div, and_u32_65535, take_len]; omega)))
  by_cases h6 : 1480 < 4 * o + m
  · refine ⟨_, _, (outT_ok k6s_ok (ip4Sizes_limit (o : Int) (m : Int)) ?_).1⟩
    repeat' (first | exact allNil | refine allCons ?_ ?_)
    all_goals ((try simp only [w1]) <;> (first | exact True.intro | (with_reducible exact id) | (intros; with_reducible assumption) | omega | (rw [Int.toNat_natCast, hm]; rfl) | (simp; done) | (simp; omega) | (simp (disch := first | omega | (simp; omega)) [str_toList, wu8, isB, lo8_raw, fd256, fd65536, fd16777216, w64, sameO_iff, lo8_mod, lo8_mod2, div_div, and_u32_65535, take_len]; done) | (simp (disch := first | omega | (simp; omega)) [str_toList, wu8, isB, lo8_raw, fd256, fd65536, fd16777216, w64, sameO_iff, lo8_mod, lo8_mod2, div_div, and_u32_65535, take_len]; omega)))
  refine ⟨_, _, ((outT_ok k6s_ok (ip4Sizes_ok (o : Int) (m : Int)) ?_).1).truly ?_⟩
  · repeat' (first | exact allNil | refine allCons ?_ ?_)
    all_goals ((try simp only [w1]) <;> (first | exact True.intro | (with_reducible exact id) | (intros; with_reducible assumption) | omega | (rw [Int.toNat_natCast, hm]; rfl) | (simp; done) | (simp; omega) | (simp (disch := first | omega | (simp; omega)) [str_toList, wu8, isB, lo8_raw, fd256, fd65536, fd16777216, w64, sameO_iff, lo8_mod, lo8_mod2, div_div, and_u32_65535, take_len]; done) | (simp (disch := first | omega | (simp; omega)) [str_toList, wu8, isB, lo8_raw, fd256, fd65536, fd16777216, w64, sameO_iff, lo8_mod, lo8_mod2, div_div, and_u32_65535, take_len]; omega)))
  · simp only [w1]; simp; rw [w64 (20 + 4 * (o : Int)) (by omega), w64 _ (by omega)]; omega
end Go.Proofs.Ytoekncmggjhmjaa.ip4Sizes
