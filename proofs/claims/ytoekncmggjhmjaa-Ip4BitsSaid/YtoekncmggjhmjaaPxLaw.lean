/- The law Ip4Bits, walked: whatever is given, it answers true. -/
import Derived.Test.YtoekncmggjhmjaaPxRun
import Derived.Test.YtoekncmggjhmjaaPm
namespace Go.Proofs.Ytoekncmggjhmjaa.ip4Bits
open Go.RowKit

set_option maxHeartbeats 4000000 in
theorem walk (tos id flags part ttl proto f0 f1 f2 f3 t0 t1 t2 t3 : Int) (opts body : List UInt8) (bit : Int) (hb : (0 ≤ f0 ∧ f0 < 256) ∧ (0 ≤ f1 ∧ f1 < 256) ∧ (0 ≤ f2 ∧ f2 < 256) ∧ (0 ≤ f3 ∧ f3 < 256) ∧ (0 ≤ t0 ∧ t0 < 256) ∧ (0 ≤ t1 ∧ t1 < 256) ∧ (0 ≤ t2 ∧ t2 < 256) ∧ (0 ≤ t3 ∧ t3 < 256)) (hbit : -9223372036854775808 ≤ bit ∧ bit ≤ 9223372036854775807) :
    ∃ L' nx', ACall Try.prog 20 [.agg [.val (.int .i64 tos), .val (.int .i64 id), .val (.int .i64 flags), .val (.int .i64 part), .val (.int .i64 ttl), .val (.int .i64 proto), .val (.int .u8 f0), .val (.int .u8 f1), .val (.int .u8 f2), .val (.int .u8 f3), .val (.int .u8 t0), .val (.int .u8 t1), .val (.int .u8 t2), .val (.int .u8 t3), .bytes opts, .bytes body], .val (.int .i64 bit)] [] 0 (.val (.bool true)) L' nx' := by
  obtain ⟨bf0, bf1, bf2, bf3, bt0, bt1, bt2, bt3⟩ := hb
  by_cases h1 : 1600 < body.length
  · refine ⟨_, _, (outT_ok k6s_ok (ip4Bits_big1 tos id flags part ttl proto f0 f1 f2 f3 t0 t1 t2 t3 opts body bit) ?_).1⟩
    repeat' (first | exact allNil | refine allCons ?_ ?_)
    all_goals first | exact True.intro | (with_reducible exact id) | (intros; with_reducible assumption) | omega | (simp; done) | (simp; omega) | (simp (disch := first | omega | (simp; omega)) [str_toList, wu8, isB, lo8_raw, fd256, fd65536, fd16777216, w64, sameO_iff, lo8_mod, lo8_mod2, div_div, and_u32_65535, take_len]; done) | (simp (disch := first | omega | (simp; omega)) [str_toList, wu8, isB, lo8_raw, fd256, fd65536, fd16777216, w64, sameO_iff, lo8_mod, lo8_mod2, div_div, and_u32_65535, take_len]; omega)
  by_cases h2 : 100 < opts.length
  · refine ⟨_, _, (outT_ok k6s_ok (ip4Bits_big2 tos id flags part ttl proto f0 f1 f2 f3 t0 t1 t2 t3 opts body bit) ?_).1⟩
    repeat' (first | exact allNil | refine allCons ?_ ?_)
    all_goals first | exact True.intro | (with_reducible exact id) | (intros; with_reducible assumption) | omega | (simp; done) | (simp; omega) | (simp (disch := first | omega | (simp; omega)) [str_toList, wu8, isB, lo8_raw, fd256, fd65536, fd16777216, w64, sameO_iff, lo8_mod, lo8_mod2, div_div, and_u32_65535, take_len]; done) | (simp (disch := first | omega | (simp; omega)) [str_toList, wu8, isB, lo8_raw, fd256, fd65536, fd16777216, w64, sameO_iff, lo8_mod, lo8_mod2, div_div, and_u32_65535, take_len]; omega)
  cases hg : goodB tos id flags part ttl proto opts.length
  case false =>
    refine ⟨_, _, (outT_ok k6s_ok (ip4Bits_arg tos id flags part ttl proto f0 f1 f2 f3 t0 t1 t2 t3 opts body bit) ?_).1⟩
    repeat' (first | exact allNil | refine allCons ?_ ?_)
    all_goals first | exact True.intro | (with_reducible exact id) | (intros; with_reducible assumption) | omega | (simp; done) | (simp; omega) | (simp (disch := first | omega | (simp; omega)) [str_toList, wu8, isB, lo8_raw, fd256, fd65536, fd16777216, w64, sameO_iff, lo8_mod, lo8_mod2, div_div, and_u32_65535, take_len, hg]; done) | (simp (disch := first | omega | (simp; omega)) [str_toList, wu8, isB, lo8_raw, fd256, fd65536, fd16777216, w64, sameO_iff, lo8_mod, lo8_mod2, div_div, and_u32_65535, take_len, hg]; omega)
  have hgp : goodP tos id flags part ttl proto opts.length := of_decide_eq_true hg
  obtain ⟨g0, g1, g2, g3, g4, g5, g6, g7⟩ := hgp
  by_cases h4 : 1480 - opts.length < body.length
  · refine ⟨_, _, (outT_ok k6s_ok (ip4Bits_limit tos id flags part ttl proto f0 f1 f2 f3 t0 t1 t2 t3 opts body bit) ?_).1⟩
    repeat' (first | exact allNil | refine allCons ?_ ?_)
    all_goals first | exact True.intro | (with_reducible exact id) | (intros; with_reducible assumption) | omega | (simp; done) | (simp; omega) | (simp (disch := first | omega | (simp; omega)) [w64]; done) | (simp (disch := first | omega | (simp; omega)) [w64]; omega)
  obtain ⟨ys, hys⟩ : ∃ ys, ys = ipH tos id flags part ttl proto f0 f1 f2 f3 t0 t1 t2 t3 opts (20 + (opts.length : Int) + (body.length : Int)) (lo8 ((ofL (ipH tos id flags part ttl proto f0 f1 f2 f3 t0 t1 t2 t3 opts (20 + (opts.length : Int) + (body.length : Int)) 0 0) : Nat) / 256)) (lo8 (ofL (ipH tos id flags part ttl proto f0 f1 f2 f3 t0 t1 t2 t3 opts (20 + (opts.length : Int) + (body.length : Int)) 0 0) : Nat)) ++ body := ⟨_, rfl⟩
  have vr := version_raw opts g6
  have pr := part_raw flags part g2 g3
  have hl : ys.length = 20 + opts.length + body.length := by rw [hys, List.length_append, ipH_len]
  have ht : List.take (20 + opts.length + body.length) ys = ys := List.take_of_length_le (by omega)
  have hw := w64 (20 + (opts.length : Int)) (by omega)
  have hz : Int.toNat (20 + (opts.length : Int)) = 20 + opts.length := by omega
  by_cases h5 : bit < 8
  · refine ⟨_, _, (outT_ok k6s_ok (ip4Bits_low tos id flags part ttl proto f0 f1 f2 f3 t0 t1 t2 t3 opts body bit ys) ?_).1⟩
    repeat' (first | exact allNil | refine allCons ?_ ?_)
    all_goals first | exact True.intro | (with_reducible exact id) | (intros; with_reducible assumption) | omega | (refine Eq.trans ?_ hys.symm; simp only [vr, pr]; simp (disch := first | omega | (simp; omega)) [wu8, lo8_raw, fd256, w64, take_len, ipH]; done) | (simp; done) | (simp; omega) | (simp (disch := first | omega | (simp; omega)) [wu8, isB, lo8_raw, fd256, w64, take_len]; done) | (simp (disch := first | omega | (simp; omega)) [wu8, isB, lo8_raw, fd256, w64, take_len]; omega)
  by_cases h6 : 8 * (20 + (opts.length : Int)) ≤ bit
  · refine ⟨_, _, (outT_ok k6s_ok (ip4Bits_high tos id flags part ttl proto f0 f1 f2 f3 t0 t1 t2 t3 opts body bit ys) ?_).1⟩
    repeat' (first | exact allNil | refine allCons ?_ ?_)
    all_goals first | exact True.intro | (with_reducible exact id) | (intros; with_reducible assumption) | omega | (refine Eq.trans ?_ hys.symm; simp only [vr, pr]; simp (disch := first | omega | (simp; omega)) [wu8, lo8_raw, fd256, w64, take_len, ipH]; done) | (simp; done) | (simp; omega) | (simp (disch := first | omega | (simp; omega)) [wu8, isB, lo8_raw, fd256, w64, take_len]; done) | (simp (disch := first | omega | (simp; omega)) [wu8, isB, lo8_raw, fd256, w64, take_len]; omega)
  have yb : (ys.getD 0 0).toNat / 16 = 4 := by rw [hys, ipH_b0 _ _ _ _ _ _ _ _ _ _ _ _ _ _ _ _ _ _ _ g6]; omega
  have yh : hdr ys = 20 + opts.length := by rw [hys]; exact ipH_hdr _ _ _ _ _ _ _ _ _ _ _ _ _ _ _ _ _ _ _ g6 g7
  have yt : List.take (20 + opts.length) ys = ipH tos id flags part ttl proto f0 f1 f2 f3 t0 t1 t2 t3 opts (20 + (opts.length : Int) + (body.length : Int)) (lo8 ((ofL (ipH tos id flags part ttl proto f0 f1 f2 f3 t0 t1 t2 t3 opts (20 + (opts.length : Int) + (body.length : Int)) 0 0) : Nat) / 256)) (lo8 (ofL (ipH tos id flags part ttl proto f0 f1 f2 f3 t0 t1 t2 t3 opts (20 + (opts.length : Int) + (body.length : Int)) 0 0) : Nat)) := by rw [hys]; exact ipH_take _ _ _ _ _ _ _ _ _ _ _ _ _ _ _ _ _ _ _
  have ysm : ofL (List.take (20 + opts.length) ys) = 0 := by rw [yt]; exact ipH_sum _ _ _ _ _ _ _ _ _ _ _ _ _ _ _ _ _ _ (put_sum _ (ofL_le _))
  have hq := bit_q bit (by omega) (by omega)
  have hj := bit_j bit (by omega) (by omega)
  obtain ⟨j, hj2⟩ : ∃ j, bit.toNat / 8 = j := ⟨_, rfl⟩
  have hjl : j < ys.length := by omega
  obtain ⟨zs, hzs⟩ : ∃ zs, List.set ys ((0 : Nat) + Int.toNat (IntKind.wrap IntKind.i64 (Int.tdiv bit (8 : Int)))) (UInt8.ofNat (Int.toNat (bits BinOp.xor IntKind.u8 (↑(UInt8.toNat (List.getD ys ((0 : Nat) + Int.toNat (IntKind.wrap IntKind.i64 (Int.tdiv bit (8 : Int)))) (0 : UInt8))) : Int) (IntKind.wrap IntKind.u8 ((1 : Int) * (2 : Int) ^ min (Int.toNat (IntKind.wrap IntKind.u64 (bits BinOp.and IntKind.i64 bit (7 : Int)))) (8 : Nat)))))) = zs := ⟨_, rfl⟩
  have hzz : zs = ys.set j (UInt8.ofNat (Int.toNat (bits BinOp.xor IntKind.u8 ((ys.getD j 0).toNat : Int) ((2 ^ (bit.toNat % 8) : Nat) : Int)))) := by
    rw [← hzs, hj, hj2, bit_pow bit (by omega)]
  have hx := xor_turned (ys.getD j 0) (bit.toNat % 8) (by omega)
  have hg2 : (List.take (20 + opts.length) ys)[j]? = some (ys.getD j 0) := by rw [List.getElem?_take, if_pos (by omega), List.getD_eq_getElem?_getD, List.getElem?_eq_getElem hjl]; rfl
  have hbd := xor_bd ((ys.getD j 0).toNat : Int) ((2 ^ (bit.toNat % 8) : Nat) : Int)
  have hpow := bit_pow bit (by omega)
  have zl : zs.length = 20 + opts.length + body.length := by rw [hzz, List.length_set]; exact hl
  have z0 : zs.getD 0 0 = ys.getD 0 0 := by rw [hzz, List.getD_eq_getElem?_getD, List.getElem?_set_ne (by omega), ← List.getD_eq_getElem?_getD]
  have zh : hdr zs = 20 + opts.length := by unfold hdr; rw [z0]; exact yh
  have zs0 : ¬ ofL (List.take (hdr zs) zs) = 0 := by
    rw [zh, hzz, List.take_set]
    exact ofL_turned _ j _ _ hg2 hx ysm
  have zE : sizesE zs (20 + opts.length + body.length) = 5 := sizesE_sum _ _ (by omega) (by rw [z0]; exact yb) (by omega) (by omega) zs0
  refine ⟨_, _, ((outT_ok k6s_ok (ip4Bits_ok tos id flags part ttl proto f0 f1 f2 f3 t0 t1 t2 t3 opts body bit ys) ?_).1).truly ?_⟩
  · repeat' (first | exact allNil | refine allCons ?_ ?_)
    all_goals ((try simp only [hzs, zE]) <;> (first | exact True.intro | (with_reducible exact id) | (intros; with_reducible assumption) | omega | (refine Eq.trans ?_ hys.symm; simp only [vr, pr]; simp (disch := first | omega | (simp; omega)) [wu8, lo8_raw, fd256, w64, take_len, ipH]; done) | (rw [hj, hj2, hpow]; exact hbd) | exact wrap_u64_nonneg _ | (simp only [hj, hj2, hl]; omega) | (simp; done) | (simp; omega) | (simp (disch := first | omega | (simp; omega)) [wu8, isB, lo8_raw, fd256, w64, take_len, ysm, hz]; done) | (simp (disch := first | omega | (simp; omega)) [wu8, isB, lo8_raw, fd256, w64, take_len]; omega)))
  · simp only [hzs, zE]; rfl
end Go.Proofs.Ytoekncmggjhmjaa.ip4Bits
