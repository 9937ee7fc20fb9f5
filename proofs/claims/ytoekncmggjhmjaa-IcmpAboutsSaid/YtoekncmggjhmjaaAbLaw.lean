/- The law IcmpAbouts, walked: whatever is given, it answers true. -/
import Derived.Test.YtoekncmggjhmjaaAbLate
namespace Go.Proofs.Ytoekncmggjhmjaa.icmpAbouts
open Go.RowKit

set_option maxHeartbeats 40000000 in
set_option maxRecDepth 100000 in
theorem walk (a0 a1 a2 a3 : Int) (b : List UInt8) (typ code : Int) (hb : (0 ≤ a0 ∧ a0 < 256) ∧ (0 ≤ a1 ∧ a1 < 256) ∧ (0 ≤ a2 ∧ a2 < 256) ∧ (0 ≤ a3 ∧ a3 < 256)) :
    ∃ L' nx', ACall Try.prog 22 [.agg [.val (.int .u8 a0), .val (.int .u8 a1), .val (.int .u8 a2), .val (.int .u8 a3)], .bytes b, .val (.int .i64 typ), .val (.int .i64 code)] [] 0 (.val (.bool true)) L' nx' := by
  obtain ⟨ba0, ba1, ba2, ba3⟩ := hb
  by_cases h1 : 1600 < b.length
  · refine ⟨_, _, (outT_ok k6s_ok (icmpAbouts_big a0 a1 a2 a3 b typ code) ?_).1⟩
    repeat' (first | with_reducible exact allNil | with_reducible refine allCons ?_ ?_ | with_reducible refine allRp _ ?_ ?_)
    all_goals first | exact True.intro | (with_reducible exact id) | (intros; with_reducible assumption) | omega | (simp; done) | (simp; omega) | (simp (disch := first | omega | (simp; omega)) [str_toList, wu8, isB, lo8_raw, fd256, fd65536, fd16777216, w64, sameO_iff, lo8_mod, lo8_mod2, div_div, and_u32_65535, take_len]; done) | (simp (disch := first | omega | (simp; omega)) [str_toList, wu8, isB, lo8_raw, fd256, fd65536, fd16777216, w64, sameO_iff, lo8_mod, lo8_mod2, div_div, and_u32_65535, take_len]; omega)
  by_cases h2 : b.length < 20
  · have zE := sizesE_short b (0 + b.length) (by omega)
    refine ⟨_, _, (outT_ok k6s_ok (icmpAbouts_short a0 a1 a2 a3 b typ code) ?_).1⟩
    repeat' (first | with_reducible exact allNil | with_reducible refine allCons ?_ ?_ | with_reducible refine allRp _ ?_ ?_)
    all_goals ((try simp only [zE]) <;> (first | exact True.intro | (with_reducible exact id) | (intros; with_reducible assumption) | omega | (simp; done) | (simp; omega) | (simp (disch := first | omega | (simp; omega)) [str_toList, wu8, isB, lo8_raw, fd256, fd65536, fd16777216, w64, sameO_iff, lo8_mod, lo8_mod2, div_div, and_u32_65535, take_len]; done) | (simp (disch := first | omega | (simp; omega)) [str_toList, wu8, isB, lo8_raw, fd256, fd65536, fd16777216, w64, sameO_iff, lo8_mod, lo8_mod2, div_div, and_u32_65535, take_len]; omega)))
  obtain ⟨n, hn⟩ : ∃ n : Nat, n = at16 b 2 := ⟨_, rfl⟩
  obtain ⟨h, hh⟩ : ∃ h : Nat, h = hdr b := ⟨_, rfl⟩
  have ph : IntKind.wrap IntKind.i64 (IntKind.wrap IntKind.i64 (bits BinOp.and IntKind.u8 (↑(UInt8.toNat (List.getD b (0 : Nat) (0 : UInt8))) : Int) (15 : Int)) * (4 : Int)) = (h : Int) := by rw [hh]; exact head_raw _
  have hlt : h ≤ 60 := by rw [hh]; exact hdr_le b
  have nlt : n ≤ 65535 := by rw [hn]; exact at16_lt b 2
  obtain ⟨v, hv⟩ : ∃ v : Nat, v = (List.getD b 0 0).toNat := ⟨_, rfl⟩
  have pv : Int.fdiv (↑(UInt8.toNat (List.getD b (0 : Nat) (0 : UInt8))) : Int) (16 : Int) = ((v / 16 : Nat) : Int) := by rw [fd16, hv]; omega
  by_cases h3 : ¬ v / 16 = 4 ∨ h < 20
  · have zE := sizesE_form b (0 + b.length) (by omega) (by rw [← hh, ← hv]; exact h3)
    refine ⟨_, _, (outT_ok k6s_ok (icmpAbouts_form a0 a1 a2 a3 b typ code) ?_).1⟩
    repeat' (first | with_reducible exact allNil | with_reducible refine allCons ?_ ?_ | with_reducible refine allRp _ ?_ ?_)
    all_goals ((try simp only [zE, ph, pv, ← hn]) <;> (first | exact True.intro | (with_reducible exact id) | (intros; with_reducible assumption) | omega | (simp; done) | (simp; omega) | (simp (disch := first | omega | (simp; omega)) [str_toList, wu8, isB, lo8_raw, fd256, fd65536, fd16777216, w64, sameO_iff, lo8_mod, lo8_mod2, div_div, and_u32_65535, take_len]; done) | (simp (disch := first | omega | (simp; omega)) [str_toList, wu8, isB, lo8_raw, fd256, fd65536, fd16777216, w64, sameO_iff, lo8_mod, lo8_mod2, div_div, and_u32_65535, take_len]; omega)))
  have v4 : (List.getD b 0 0).toNat / 16 = 4 := by rw [← hv]; omega
  by_cases h4 : b.length < h
  · have zE := sizesE_long b (0 + b.length) (by omega) v4 (by omega) (by omega)
    refine ⟨_, _, (outT_ok k6s_ok (icmpAbouts_long a0 a1 a2 a3 b typ code) ?_).1⟩
    repeat' (first | with_reducible exact allNil | with_reducible refine allCons ?_ ?_ | with_reducible refine allRp _ ?_ ?_)
    all_goals ((try simp only [zE, ph, pv, ← hn]) <;> (first | exact True.intro | (with_reducible exact id) | (intros; with_reducible assumption) | omega | (simp; done) | (simp; omega) | (simp (disch := first | omega | (simp; omega)) [str_toList, wu8, isB, lo8_raw, fd256, fd65536, fd16777216, w64, sameO_iff, lo8_mod, lo8_mod2, div_div, and_u32_65535, take_len]; done) | (simp (disch := first | omega | (simp; omega)) [str_toList, wu8, isB, lo8_raw, fd256, fd65536, fd16777216, w64, sameO_iff, lo8_mod, lo8_mod2, div_div, and_u32_65535, take_len]; omega)))
  by_cases h5 : ofL (List.take h b) = 0
  case neg =>
    have zE := sizesE_sum b (0 + b.length) (by omega) v4 (by omega) (by omega) (by rw [← hh]; exact h5)
    refine ⟨_, _, (outT_ok k6s_ok (icmpAbouts_sum a0 a1 a2 a3 b typ code) ?_).1⟩
    repeat' (first | with_reducible exact allNil | with_reducible refine allCons ?_ ?_ | with_reducible refine allRp _ ?_ ?_)
    all_goals ((try simp only [zE, ph, pv, ← hn]) <;> (first | exact True.intro | (with_reducible exact id) | (intros; with_reducible assumption) | omega | (simp; done) | (simp; omega) | (simp (disch := first | omega | (simp; omega)) [str_toList, wu8, isB, lo8_raw, fd256, fd65536, fd16777216, w64, sameO_iff, lo8_mod, lo8_mod2, div_div, and_u32_65535, take_len, h5]; done) | (simp (disch := first | omega | (simp; omega)) [str_toList, wu8, isB, lo8_raw, fd256, fd65536, fd16777216, w64, sameO_iff, lo8_mod, lo8_mod2, div_div, and_u32_65535, take_len, h5]; omega)))
  have h5b : ofL (List.take (hdr b) b) = 0 := by rw [← hh]; exact h5
  by_cases h6 : n < h
  · have zE := sizesE_form2 b (0 + b.length) (by omega) v4 (by omega) (by omega) h5b (by omega)
    refine ⟨_, _, (outT_ok k6s_ok (icmpAbouts_form2 a0 a1 a2 a3 b typ code) ?_).1⟩
    repeat' (first | with_reducible exact allNil | with_reducible refine allCons ?_ ?_ | with_reducible refine allRp _ ?_ ?_)
    all_goals ((try simp only [zE, ph, pv, ← hn]) <;> (first | exact True.intro | (with_reducible exact id) | (intros; with_reducible assumption) | omega | (simp; done) | (simp; omega) | (simp (disch := first | omega | (simp; omega)) [str_toList, wu8, isB, lo8_raw, fd256, fd65536, fd16777216, w64, sameO_iff, lo8_mod, lo8_mod2, div_div, and_u32_65535, take_len, h5]; done) | (simp (disch := first | omega | (simp; omega)) [str_toList, wu8, isB, lo8_raw, fd256, fd65536, fd16777216, w64, sameO_iff, lo8_mod, lo8_mod2, div_div, and_u32_65535, take_len, h5]; omega)))
  by_cases h7 : b.length < n
  · have zE := sizesE_long2 b (0 + b.length) (by omega) v4 (by omega) (by omega) h5b (by omega) (by omega)
    refine ⟨_, _, (outT_ok k6s_ok (icmpAbouts_long2 a0 a1 a2 a3 b typ code) ?_).1⟩
    repeat' (first | with_reducible exact allNil | with_reducible refine allCons ?_ ?_ | with_reducible refine allRp _ ?_ ?_)
    all_goals ((try simp only [zE, ph, pv, ← hn]) <;> (first | exact True.intro | (with_reducible exact id) | (intros; with_reducible assumption) | omega | (simp; done) | (simp; omega) | (simp (disch := first | omega | (simp; omega)) [str_toList, wu8, isB, lo8_raw, fd256, fd65536, fd16777216, w64, sameO_iff, lo8_mod, lo8_mod2, div_div, and_u32_65535, take_len, h5]; done) | (simp (disch := first | omega | (simp; omega)) [str_toList, wu8, isB, lo8_raw, fd256, fd65536, fd16777216, w64, sameO_iff, lo8_mod, lo8_mod2, div_div, and_u32_65535, take_len, h5]; omega)))
  exact late.walk a0 a1 a2 a3 b typ code ⟨ba0, ba1, ba2, ba3⟩ h1 h2 v4 (by omega) (by omega) h5b (by omega) (by omega)
end Go.Proofs.Ytoekncmggjhmjaa.icmpAbouts
