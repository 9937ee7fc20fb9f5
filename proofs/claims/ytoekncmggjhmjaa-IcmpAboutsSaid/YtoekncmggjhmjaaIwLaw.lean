/- The law IcmpWrites, walked: whatever is given, it answers true. -/
import Derived.Test.YtoekncmggjhmjaaIwRun
import Derived.Test.YtoekncmggjhmjaaWm
namespace Go.Proofs.Ytoekncmggjhmjaa.icmpWrites
open Go.RowKit

/-- a message's bytes, with two bytes where its sum stands -/
def icmpH (typ code rest : Int) (mb : List UInt8) (s0 s1 : UInt8) : List UInt8 := lo8 typ :: lo8 code :: s0 :: s1 :: lo8 (rest / 16777216) :: lo8 (rest / 65536) :: lo8 (rest / 256) :: lo8 rest :: mb
def icmpS (typ code rest : Int) (mb : List UInt8) : Nat := ofL (icmpH typ code rest mb 0 0)
def icmpB (typ code rest : Int) (mb : List UInt8) : List UInt8 := icmpH typ code rest mb (lo8 ((icmpS typ code rest mb : Nat) / 256)) (lo8 (icmpS typ code rest mb : Nat))
theorem icmpB_len (typ code rest : Int) (mb : List UInt8) : (icmpB typ code rest mb).length = 8 + mb.length := by
  simp [icmpB, icmpH]; omega
theorem icmpB_fits (typ code rest : Int) (mb : List UInt8) : ofL (icmpB typ code rest mb) = 0 := by
  have h := ofL_put (icmpH typ code rest mb 0 0) 2 (lo8 ((icmpS typ code rest mb : Nat) / 256)) (lo8 (icmpS typ code rest mb : Nat)) (by decide) rfl rfl (put_sum _ (ofL_le _))
  exact h
set_option maxHeartbeats 4000000 in
theorem walk (tos id flags part ttl proto f0 f1 f2 f3 t0 t1 t2 t3 : Int) (opts body : List UInt8) (typ code rest : Int) (mb : List UInt8) (hr : 0 ≤ rest ∧ rest < 4294967296) :
    ∃ L' nx', ACall Try.prog 4 [.agg [.val (.int .i64 tos), .val (.int .i64 id), .val (.int .i64 flags), .val (.int .i64 part), .val (.int .i64 ttl), .val (.int .i64 proto), .val (.int .u8 f0), .val (.int .u8 f1), .val (.int .u8 f2), .val (.int .u8 f3), .val (.int .u8 t0), .val (.int .u8 t1), .val (.int .u8 t2), .val (.int .u8 t3), .bytes opts, .bytes body], .agg [.val (.int .i64 typ), .val (.int .i64 code), .val (.int .u32 rest), .bytes mb]] [] 0 (.val (.bool true)) L' nx' := by
  by_cases h1 : 1600 < body.length
  · refine ⟨_, _, (outT_ok k69_ok (icmpWrites_big1 tos id flags part ttl proto f0 f1 f2 f3 t0 t1 t2 t3 opts body typ code rest mb) ?_).1⟩
    repeat' (first | exact allNil | refine allCons ?_ ?_)
    all_goals first | exact True.intro | (with_reducible exact id) | (intros; with_reducible assumption) | omega | (simp; done) | (simp; omega) | (simp (disch := first | omega | (simp; omega)) [str_toList, wu8, isB, lo8_raw, fd256, fd65536, fd16777216, w64, sameO_iff, lo8_mod, lo8_mod2, div_div, and_u32_65535, take_len]; done) | (simp (disch := first | omega | (simp; omega)) [str_toList, wu8, isB, lo8_raw, fd256, fd65536, fd16777216, w64, sameO_iff, lo8_mod, lo8_mod2, div_div, and_u32_65535, take_len]; omega)
  by_cases h2 : 60 < opts.length
  · refine ⟨_, _, (outT_ok k69_ok (icmpWrites_big2 tos id flags part ttl proto f0 f1 f2 f3 t0 t1 t2 t3 opts body typ code rest mb) ?_).1⟩
    repeat' (first | exact allNil | refine allCons ?_ ?_)
    all_goals first | exact True.intro | (with_reducible exact id) | (intros; with_reducible assumption) | omega | (simp; done) | (simp; omega) | (simp (disch := first | omega | (simp; omega)) [str_toList, wu8, isB, lo8_raw, fd256, fd65536, fd16777216, w64, sameO_iff, lo8_mod, lo8_mod2, div_div, and_u32_65535, take_len]; done) | (simp (disch := first | omega | (simp; omega)) [str_toList, wu8, isB, lo8_raw, fd256, fd65536, fd16777216, w64, sameO_iff, lo8_mod, lo8_mod2, div_div, and_u32_65535, take_len]; omega)
  by_cases h3 : 1600 < mb.length
  · refine ⟨_, _, (outT_ok k69_ok (icmpWrites_big3 tos id flags part ttl proto f0 f1 f2 f3 t0 t1 t2 t3 opts body typ code rest mb) ?_).1⟩
    repeat' (first | exact allNil | refine allCons ?_ ?_)
    all_goals first | exact True.intro | (with_reducible exact id) | (intros; with_reducible assumption) | omega | (simp; done) | (simp; omega) | (simp (disch := first | omega | (simp; omega)) [str_toList, wu8, isB, lo8_raw, fd256, fd65536, fd16777216, w64, sameO_iff, lo8_mod, lo8_mod2, div_div, and_u32_65535, take_len]; done) | (simp (disch := first | omega | (simp; omega)) [str_toList, wu8, isB, lo8_raw, fd256, fd65536, fd16777216, w64, sameO_iff, lo8_mod, lo8_mod2, div_div, and_u32_65535, take_len]; omega)
  cases h4 : (bif !bif decide (typ ≥ (0 : Int)) then decide (typ ≤ (255 : Int)) else false then true else !bif decide (code ≥ (0 : Int)) then decide (code ≤ (255 : Int)) else false)
  case true =>
    refine ⟨_, _, (outT_ok k69_ok (icmpWrites_arg tos id flags part ttl proto f0 f1 f2 f3 t0 t1 t2 t3 opts body typ code rest mb) ?_).1⟩
    repeat' (first | exact allNil | refine allCons ?_ ?_)
    all_goals first | exact True.intro | (with_reducible exact id) | (intros; with_reducible assumption) | omega | exact h4 | (simp; done) | (simp; omega) | (simp (disch := first | omega | (simp; omega)) [str_toList, wu8, isB, lo8_raw, fd256, fd65536, fd16777216, w64, sameO_iff, lo8_mod, lo8_mod2, div_div, and_u32_65535, take_len]; done) | (simp (disch := first | omega | (simp; omega)) [str_toList, wu8, isB, lo8_raw, fd256, fd65536, fd16777216, w64, sameO_iff, lo8_mod, lo8_mod2, div_div, and_u32_65535, take_len]; omega)
  by_cases h5 : 1472 < mb.length
  · refine ⟨_, _, (outT_ok k69_ok (icmpWrites_limit tos id flags part ttl proto f0 f1 f2 f3 t0 t1 t2 t3 opts body typ code rest mb) ?_).1⟩
    repeat' (first | exact allNil | refine allCons ?_ ?_)
    all_goals first | exact True.intro | (with_reducible exact id) | (intros; with_reducible assumption) | omega | exact h4 | (simp; done) | (simp; omega) | (simp (disch := first | omega | (simp; omega)) [str_toList, wu8, isB, lo8_raw, fd256, fd65536, fd16777216, w64, sameO_iff, lo8_mod, lo8_mod2, div_div, and_u32_65535, take_len]; done) | (simp (disch := first | omega | (simp; omega)) [str_toList, wu8, isB, lo8_raw, fd256, fd65536, fd16777216, w64, sameO_iff, lo8_mod, lo8_mod2, div_div, and_u32_65535, take_len]; omega)
  have hl := icmpB_len typ code rest mb
  have hf := icmpB_fits typ code rest mb
  have hv : (0 ≤ typ ∧ typ ≤ 255) ∧ (0 ≤ code ∧ code ≤ 255) := by
    simp at h4; omega
  obtain ⟨hv1, hv2⟩ := hv
  have ht : List.take (8 + mb.length) (icmpB typ code rest mb) = icmpB typ code rest mb := List.take_of_length_le (by omega)
  have e0 : ((at8 (icmpB typ code rest mb) 0 : Nat) : Int) = typ := by
    rw [at8_getD]; show ((lo8 typ).toNat : Int) = typ
    rw [lo8_toNat]; omega
  have e1 : ((at8 (icmpB typ code rest mb) 1 : Nat) : Int) = code := by
    rw [at8_getD]; show ((lo8 code).toNat : Int) = code
    rw [lo8_toNat]; omega
  have e4 : ((at32 (icmpB typ code rest mb) 4 : Nat) : Int) = rest := by
    show ((beA 0 [lo8 (rest / 16777216), lo8 (rest / 65536), lo8 (rest / 256), lo8 rest] : Nat) : Int) = rest
    have a0 := lo8_toNat (rest / 16777216)
    have a1 := lo8_toNat (rest / 65536)
    have a2 := lo8_toNat (rest / 256)
    have a3 := lo8_toNat rest
    simp only [beA, List.foldl_cons, List.foldl_nil]
    omega
  have e8 : List.drop 8 (icmpB typ code rest mb) = mb := rfl
  cases h6 : (bif part == (0 : Int) then bits BinOp.and IntKind.i64 flags (1 : Int) == (0 : Int) else false)
  case false =>
    refine ⟨_, _, (outT_ok k69_ok (icmpWrites_part tos id flags part ttl proto f0 f1 f2 f3 t0 t1 t2 t3 opts body typ code rest mb (icmpB typ code rest mb)) ?_).1⟩
    repeat' (first | exact allNil | refine allCons ?_ ?_)
    all_goals first | exact True.intro | (with_reducible exact id) | (intros; with_reducible assumption) | omega | exact h4 | (rw [h6]; rfl) | (simp (disch := first | omega | (simp; omega)) [wu8, lo8_raw, fd256, fd65536, fd16777216, w64, lo8_mod, lo8_mod2, div_div, and_u32_65535, take_len, icmpB, icmpH, icmpS]; done) | (simp; done) | (simp; omega) | (simp (disch := first | omega | (simp; omega)) [str_toList, wu8, isB, lo8_raw, fd256, fd65536, fd16777216, w64, sameO_iff, lo8_mod, lo8_mod2, div_div, and_u32_65535, take_len, ht, hl, hf]; done) | (simp (disch := first | omega | (simp; omega)) [str_toList, wu8, isB, lo8_raw, fd256, fd65536, fd16777216, w64, sameO_iff, lo8_mod, lo8_mod2, div_div, and_u32_65535, take_len, ht, hl, hf]; omega)
  refine ⟨_, _, ((outT_ok k69_ok (icmpWrites_ok tos id flags part ttl proto f0 f1 f2 f3 t0 t1 t2 t3 opts body typ code rest mb (icmpB typ code rest mb)) ?_).1).truly ?_⟩
  · repeat' (first | exact allNil | refine allCons ?_ ?_)
    all_goals first | exact True.intro | (with_reducible exact id) | (intros; with_reducible assumption) | omega | exact h4 | (rw [h6]; rfl) | (simp (disch := first | omega | (simp; omega)) [wu8, lo8_raw, fd256, fd65536, fd16777216, w64, lo8_mod, lo8_mod2, div_div, and_u32_65535, take_len, icmpB, icmpH, icmpS]; done) | (simp; done) | (simp; omega) | (simp (disch := first | omega | (simp; omega)) [str_toList, wu8, isB, lo8_raw, fd256, fd65536, fd16777216, w64, sameO_iff, lo8_mod, lo8_mod2, div_div, and_u32_65535, take_len, ht, hl, hf, e0, e1, e4, e8]; done) | (simp (disch := first | omega | (simp; omega)) [str_toList, wu8, isB, lo8_raw, fd256, fd65536, fd16777216, w64, sameO_iff, lo8_mod, lo8_mod2, div_div, and_u32_65535, take_len, ht, hl, hf, e0, e1, e4, e8]; omega)
  · simp (disch := first | omega | (simp; omega)) [str_toList, ht, hl, e8, take_len]
end Go.Proofs.Ytoekncmggjhmjaa.icmpWrites
