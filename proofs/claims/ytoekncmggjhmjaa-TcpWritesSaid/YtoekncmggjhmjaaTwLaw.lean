/- The law TcpWrites, walked: whatever is given, it answers true. -/
import Derived.Test.YtoekncmggjhmjaaTwRun
import Derived.Test.YtoekncmggjhmjaaTwRunb
import Derived.Test.YtoekncmggjhmjaaTcpB
namespace Go.Proofs.Ytoekncmggjhmjaa.tcpWrites
open Go.RowKit

set_option maxHeartbeats 4000000 in
theorem walk (tos id flags part ttl proto f0 f1 f2 f3 t0 t1 t2 t3 : Int) (opts body : List UInt8) (fr tp seq ack fl win urg : Int) (so sb : List UInt8) (hb : (0 ≤ f0 ∧ f0 < 256) ∧ (0 ≤ f1 ∧ f1 < 256) ∧ (0 ≤ f2 ∧ f2 < 256) ∧ (0 ≤ f3 ∧ f3 < 256) ∧ (0 ≤ t0 ∧ t0 < 256) ∧ (0 ≤ t1 ∧ t1 < 256) ∧ (0 ≤ t2 ∧ t2 < 256) ∧ (0 ≤ t3 ∧ t3 < 256)) (hseq : 0 ≤ seq ∧ seq < 4294967296) (hack : 0 ≤ ack ∧ ack < 4294967296) :
    ∃ L' nx', ACall Try.prog 14 [.agg [.val (.int .i64 tos), .val (.int .i64 id), .val (.int .i64 flags), .val (.int .i64 part), .val (.int .i64 ttl), .val (.int .i64 proto), .val (.int .u8 f0), .val (.int .u8 f1), .val (.int .u8 f2), .val (.int .u8 f3), .val (.int .u8 t0), .val (.int .u8 t1), .val (.int .u8 t2), .val (.int .u8 t3), .bytes opts, .bytes body], .agg [.val (.int .i64 fr), .val (.int .i64 tp), .val (.int .u32 seq), .val (.int .u32 ack), .val (.int .i64 fl), .val (.int .i64 win), .val (.int .i64 urg), .bytes so, .bytes sb]] [] 0 (.val (.bool true)) L' nx' := by
  obtain ⟨bf0, bf1, bf2, bf3, bt0, bt1, bt2, bt3⟩ := hb
  by_cases h1 : 1600 < body.length
  · refine ⟨_, _, (outT_ok k69_ok (tcpWrites_big1 tos id flags part ttl proto f0 f1 f2 f3 t0 t1 t2 t3 opts body fr tp seq ack fl win urg so sb) ?_).1⟩
    repeat' (first | exact allNil | refine allCons ?_ ?_)
    all_goals first | exact True.intro | (with_reducible exact id) | (intros; with_reducible assumption) | omega | (simp; done) | (simp; omega) | (simp (disch := first | omega | (simp; omega)) [str_toList, wu8, isB, lo8_raw, fd256, fd65536, fd16777216, w64, sameO_iff, lo8_mod, lo8_mod2, div_div, and_u32_65535, take_len]; done) | (simp (disch := first | omega | (simp; omega)) [str_toList, wu8, isB, lo8_raw, fd256, fd65536, fd16777216, w64, sameO_iff, lo8_mod, lo8_mod2, div_div, and_u32_65535, take_len]; omega)
  by_cases h2 : 60 < opts.length
  · refine ⟨_, _, (outT_ok k69_ok (tcpWrites_big2 tos id flags part ttl proto f0 f1 f2 f3 t0 t1 t2 t3 opts body fr tp seq ack fl win urg so sb) ?_).1⟩
    repeat' (first | exact allNil | refine allCons ?_ ?_)
    all_goals first | exact True.intro | (with_reducible exact id) | (intros; with_reducible assumption) | omega | (simp; done) | (simp; omega) | (simp (disch := first | omega | (simp; omega)) [str_toList, wu8, isB, lo8_raw, fd256, fd65536, fd16777216, w64, sameO_iff, lo8_mod, lo8_mod2, div_div, and_u32_65535, take_len]; done) | (simp (disch := first | omega | (simp; omega)) [str_toList, wu8, isB, lo8_raw, fd256, fd65536, fd16777216, w64, sameO_iff, lo8_mod, lo8_mod2, div_div, and_u32_65535, take_len]; omega)
  by_cases h3 : 1600 < sb.length
  · refine ⟨_, _, (outT_ok k69_ok (tcpWrites_big3 tos id flags part ttl proto f0 f1 f2 f3 t0 t1 t2 t3 opts body fr tp seq ack fl win urg so sb) ?_).1⟩
    repeat' (first | exact allNil | refine allCons ?_ ?_)
    all_goals first | exact True.intro | (with_reducible exact id) | (intros; with_reducible assumption) | omega | (simp; done) | (simp; omega) | (simp (disch := first | omega | (simp; omega)) [str_toList, wu8, isB, lo8_raw, fd256, fd65536, fd16777216, w64, sameO_iff, lo8_mod, lo8_mod2, div_div, and_u32_65535, take_len]; done) | (simp (disch := first | omega | (simp; omega)) [str_toList, wu8, isB, lo8_raw, fd256, fd65536, fd16777216, w64, sameO_iff, lo8_mod, lo8_mod2, div_div, and_u32_65535, take_len]; omega)
  by_cases h4 : 60 < so.length
  · refine ⟨_, _, (outT_ok k69_ok (tcpWrites_big4 tos id flags part ttl proto f0 f1 f2 f3 t0 t1 t2 t3 opts body fr tp seq ack fl win urg so sb) ?_).1⟩
    repeat' (first | exact allNil | refine allCons ?_ ?_)
    all_goals first | exact True.intro | (with_reducible exact id) | (intros; with_reducible assumption) | omega | (simp; done) | (simp; omega) | (simp (disch := first | omega | (simp; omega)) [str_toList, wu8, isB, lo8_raw, fd256, fd65536, fd16777216, w64, sameO_iff, lo8_mod, lo8_mod2, div_div, and_u32_65535, take_len]; done) | (simp (disch := first | omega | (simp; omega)) [str_toList, wu8, isB, lo8_raw, fd256, fd65536, fd16777216, w64, sameO_iff, lo8_mod, lo8_mod2, div_div, and_u32_65535, take_len]; omega)
  by_cases g0 : 0 ≤ fr ∧ fr ≤ 65535
  case neg =>
    refine ⟨_, _, (outT_ok k69_ok (tcpWrites_arg1 tos id flags part ttl proto f0 f1 f2 f3 t0 t1 t2 t3 opts body fr tp seq ack fl win urg so sb) ?_).1⟩
    repeat' (first | exact allNil | refine allCons ?_ ?_)
    all_goals first | exact True.intro | (with_reducible exact id) | (intros; with_reducible assumption) | omega | (simp; done) | (simp; omega) | (simp (disch := first | omega | (simp; omega)) [str_toList, wu8, isB, lo8_raw, fd256, fd65536, fd16777216, w64, sameO_iff, lo8_mod, lo8_mod2, div_div, and_u32_65535, take_len]; done) | (simp (disch := first | omega | (simp; omega)) [str_toList, wu8, isB, lo8_raw, fd256, fd65536, fd16777216, w64, sameO_iff, lo8_mod, lo8_mod2, div_div, and_u32_65535, take_len]; omega)
  obtain ⟨g0, g0b⟩ := g0
  by_cases g1 : 0 ≤ tp ∧ tp ≤ 65535
  case neg =>
    refine ⟨_, _, (outT_ok k69_ok (tcpWrites_arg2 tos id flags part ttl proto f0 f1 f2 f3 t0 t1 t2 t3 opts body fr tp seq ack fl win urg so sb) ?_).1⟩
    repeat' (first | exact allNil | refine allCons ?_ ?_)
    all_goals first | exact True.intro | (with_reducible exact id) | (intros; with_reducible assumption) | omega | (simp; done) | (simp; omega) | (simp (disch := first | omega | (simp; omega)) [str_toList, wu8, isB, lo8_raw, fd256, fd65536, fd16777216, w64, sameO_iff, lo8_mod, lo8_mod2, div_div, and_u32_65535, take_len]; done) | (simp (disch := first | omega | (simp; omega)) [str_toList, wu8, isB, lo8_raw, fd256, fd65536, fd16777216, w64, sameO_iff, lo8_mod, lo8_mod2, div_div, and_u32_65535, take_len]; omega)
  obtain ⟨g1, g1b⟩ := g1
  by_cases g2 : 0 ≤ fl ∧ fl ≤ 63
  case neg =>
    refine ⟨_, _, (outT_ok k69_ok (tcpWrites_arg3 tos id flags part ttl proto f0 f1 f2 f3 t0 t1 t2 t3 opts body fr tp seq ack fl win urg so sb) ?_).1⟩
    repeat' (first | exact allNil | refine allCons ?_ ?_)
    all_goals first | exact True.intro | (with_reducible exact id) | (intros; with_reducible assumption) | omega | (simp; done) | (simp; omega) | (simp (disch := first | omega | (simp; omega)) [str_toList, wu8, isB, lo8_raw, fd256, fd65536, fd16777216, w64, sameO_iff, lo8_mod, lo8_mod2, div_div, and_u32_65535, take_len]; done) | (simp (disch := first | omega | (simp; omega)) [str_toList, wu8, isB, lo8_raw, fd256, fd65536, fd16777216, w64, sameO_iff, lo8_mod, lo8_mod2, div_div, and_u32_65535, take_len]; omega)
  obtain ⟨g2, g2b⟩ := g2
  by_cases g3 : 0 ≤ win ∧ win ≤ 65535
  case neg =>
    refine ⟨_, _, (outT_ok k69_ok (tcpWrites_arg4 tos id flags part ttl proto f0 f1 f2 f3 t0 t1 t2 t3 opts body fr tp seq ack fl win urg so sb) ?_).1⟩
    repeat' (first | exact allNil | refine allCons ?_ ?_)
    all_goals first | exact True.intro | (with_reducible exact id) | (intros; with_reducible assumption) | omega | (simp; done) | (simp; omega) | (simp (disch := first | omega | (simp; omega)) [str_toList, wu8, isB, lo8_raw, fd256, fd65536, fd16777216, w64, sameO_iff, lo8_mod, lo8_mod2, div_div, and_u32_65535, take_len]; done) | (simp (disch := first | omega | (simp; omega)) [str_toList, wu8, isB, lo8_raw, fd256, fd65536, fd16777216, w64, sameO_iff, lo8_mod, lo8_mod2, div_div, and_u32_65535, take_len]; omega)
  obtain ⟨g3, g3b⟩ := g3
  by_cases g4 : 0 ≤ urg ∧ urg ≤ 65535
  case neg =>
    refine ⟨_, _, (outT_ok k69_ok (tcpWrites_arg5 tos id flags part ttl proto f0 f1 f2 f3 t0 t1 t2 t3 opts body fr tp seq ack fl win urg so sb) ?_).1⟩
    repeat' (first | exact allNil | refine allCons ?_ ?_)
    all_goals first | exact True.intro | (with_reducible exact id) | (intros; with_reducible assumption) | omega | (simp; done) | (simp; omega) | (simp (disch := first | omega | (simp; omega)) [str_toList, wu8, isB, lo8_raw, fd256, fd65536, fd16777216, w64, sameO_iff, lo8_mod, lo8_mod2, div_div, and_u32_65535, take_len]; done) | (simp (disch := first | omega | (simp; omega)) [str_toList, wu8, isB, lo8_raw, fd256, fd65536, fd16777216, w64, sameO_iff, lo8_mod, lo8_mod2, div_div, and_u32_65535, take_len]; omega)
  obtain ⟨g4, g4b⟩ := g4
  by_cases g5 : 40 < so.length
  · refine ⟨_, _, (outT_ok k69_ok (tcpWrites_arg6 tos id flags part ttl proto f0 f1 f2 f3 t0 t1 t2 t3 opts body fr tp seq ack fl win urg so sb) ?_).1⟩
    repeat' (first | exact allNil | refine allCons ?_ ?_)
    all_goals first | exact True.intro | (with_reducible exact id) | (intros; with_reducible assumption) | omega | (simp; done) | (simp; omega) | (simp (disch := first | omega | (simp; omega)) [str_toList, wu8, isB, lo8_raw, fd256, fd65536, fd16777216, w64, sameO_iff, lo8_mod, lo8_mod2, div_div, and_u32_65535, take_len]; done) | (simp (disch := first | omega | (simp; omega)) [str_toList, wu8, isB, lo8_raw, fd256, fd65536, fd16777216, w64, sameO_iff, lo8_mod, lo8_mod2, div_div, and_u32_65535, take_len]; omega)
  by_cases g6 : so.length % 4 = 0
  case neg =>
    have g6i : ¬ Int.tmod (so.length : Int) 4 = 0 := by rw [Int.tmod_eq_emod_of_nonneg (by omega)]; omega
    have hw := w64 (Int.tmod (so.length : Int) 4) (by rw [Int.tmod_eq_emod_of_nonneg (by omega)]; omega)
    refine ⟨_, _, (outT_ok k69_ok (tcpWrites_arg7 tos id flags part ttl proto f0 f1 f2 f3 t0 t1 t2 t3 opts body fr tp seq ack fl win urg so sb) ?_).1⟩
    repeat' (first | exact allNil | refine allCons ?_ ?_)
    all_goals first | exact True.intro | (with_reducible exact id) | (intros; with_reducible assumption) | omega | (simp; done) | (simp; omega) | (simp (disch := first | omega | (simp; omega)) [str_toList, wu8, isB, lo8_raw, fd256, fd65536, fd16777216, w64, sameO_iff, lo8_mod, lo8_mod2, div_div, and_u32_65535, take_len, g6i, hw]; done) | (simp (disch := first | omega | (simp; omega)) [str_toList, wu8, isB, lo8_raw, fd256, fd65536, fd16777216, w64, sameO_iff, lo8_mod, lo8_mod2, div_div, and_u32_65535, take_len, g6i, hw]; omega)
  have g6i : Int.tmod (so.length : Int) 4 = 0 := by rw [Int.tmod_eq_emod_of_nonneg (by omega)]; omega
  by_cases g7 : 1460 - so.length < sb.length
  · refine ⟨_, _, (outT_ok k69_ok (tcpWrites_limit tos id flags part ttl proto f0 f1 f2 f3 t0 t1 t2 t3 opts body fr tp seq ack fl win urg so sb) ?_).1⟩
    repeat' (first | exact allNil | refine allCons ?_ ?_)
    all_goals first | exact True.intro | (with_reducible exact id) | (intros; with_reducible assumption) | omega | (simp; done) | (simp; omega) | (simp (disch := first | omega | (simp; omega)) [str_toList, wu8, isB, lo8_raw, fd256, fd65536, fd16777216, w64, sameO_iff, lo8_mod, lo8_mod2, div_div, and_u32_65535, take_len, g6i]; done) | (simp (disch := first | omega | (simp; omega)) [str_toList, wu8, isB, lo8_raw, fd256, fd65536, fd16777216, w64, sameO_iff, lo8_mod, lo8_mod2, div_div, and_u32_65535, take_len, g6i]; omega)
  obtain ⟨ys, hys⟩ : ∃ ys, ys = tcpH fr tp seq ack fl win urg so sb (lo8 ((ofL (UInt8.ofNat (Int.toNat f0) :: UInt8.ofNat (Int.toNat f1) :: UInt8.ofNat (Int.toNat f2) :: UInt8.ofNat (Int.toNat f3) :: UInt8.ofNat (Int.toNat t0) :: UInt8.ofNat (Int.toNat t1) :: UInt8.ofNat (Int.toNat t2) :: UInt8.ofNat (Int.toNat t3) :: (0 : UInt8) :: (6 : UInt8) :: lo8 ((20 + (so.length : Int) + (sb.length : Int)) / 256) :: lo8 (20 + (so.length : Int) + (sb.length : Int)) :: tcpH fr tp seq ack fl win urg so sb 0 0) : Nat) / 256)) (lo8 (ofL (UInt8.ofNat (Int.toNat f0) :: UInt8.ofNat (Int.toNat f1) :: UInt8.ofNat (Int.toNat f2) :: UInt8.ofNat (Int.toNat f3) :: UInt8.ofNat (Int.toNat t0) :: UInt8.ofNat (Int.toNat t1) :: UInt8.ofNat (Int.toNat t2) :: UInt8.ofNat (Int.toNat t3) :: (0 : UInt8) :: (6 : UInt8) :: lo8 ((20 + (so.length : Int) + (sb.length : Int)) / 256) :: lo8 (20 + (so.length : Int) + (sb.length : Int)) :: tcpH fr tp seq ack fl win urg so sb 0 0) : Nat)) := ⟨_, rfl⟩
  have hl : ys.length = 20 + so.length + sb.length := by rw [hys]; exact tcpH_len ..
  have ht : List.take (20 + so.length + sb.length) ys = ys := List.take_of_length_le (by omega)
  have a0 : ((at16 ys 0 : Nat) : Int) = fr := by rw [hys]; exact tcpH_fr _ _ _ _ _ _ _ _ _ _ _ ⟨g0, g0b⟩
  have a2 : ((at16 ys 2 : Nat) : Int) = tp := by rw [hys]; exact tcpH_tp _ _ _ _ _ _ _ _ _ _ _ ⟨g1, g1b⟩
  have a4 : ((at32 ys 4 : Nat) : Int) = seq := by rw [hys]; exact tcpH_seq _ _ _ _ _ _ _ _ _ _ _ hseq
  have a8 : ((at32 ys 8 : Nat) : Int) = ack := by rw [hys]; exact tcpH_ack _ _ _ _ _ _ _ _ _ _ _ hack
  have a12 : bits BinOp.and IntKind.i64 ((at16 ys 12 : Nat) : Int) (63 : Int) = fl := by rw [hys]; exact tcpH_fl _ _ _ _ _ _ _ _ _ _ _ ⟨g2, g2b⟩
  have a14 : ((at16 ys 14 : Nat) : Int) = win := by rw [hys]; exact tcpH_win _ _ _ _ _ _ _ _ _ _ _ ⟨g3, g3b⟩
  have a18 : ((at16 ys 18 : Nat) : Int) = urg := by rw [hys]; exact tcpH_urg _ _ _ _ _ _ _ _ _ _ _ ⟨g4, g4b⟩
  have hs : ofL (UInt8.ofNat (Int.toNat f0) :: UInt8.ofNat (Int.toNat f1) :: UInt8.ofNat (Int.toNat f2) :: UInt8.ofNat (Int.toNat f3) :: UInt8.ofNat (Int.toNat t0) :: UInt8.ofNat (Int.toNat t1) :: UInt8.ofNat (Int.toNat t2) :: UInt8.ofNat (Int.toNat t3) :: (0 : UInt8) :: (6 : UInt8) :: lo8 ((20 + (so.length : Int) + (sb.length : Int)) / 256) :: lo8 (20 + (so.length : Int) + (sb.length : Int)) :: ys) = 0 := by
    rw [hys]
    exact tcpH_sum _ _ _ _ _ _ _ _ _ _ _ _ _ _ _ _ _ _ _ _ _ _ _ (put_sum _ (ofL_le _))
  have hh : ∃ k : Nat, IntKind.wrap IntKind.i64 (IntKind.wrap IntKind.i64 (Int.fdiv (↑(UInt8.toNat (List.getD ys (12 : Nat) (0 : UInt8))) : Int) (16 : Int)) * (4 : Int)) = (k : Int) ∧ k = 20 + so.length := ⟨20 + so.length, by rw [hys]; exact tcpH_h _ _ _ _ _ _ _ _ _ _ _ (by omega) g6, rfl⟩
  obtain ⟨k, hh, hk⟩ := hh
  have hB1 := head_byte so (by omega) g6
  have hB2 := head_byte2 so (by omega)
  have d20 : List.drop 20 ys = so ++ sb := by rw [hys]; rfl
  have e1 : List.take (k - 20) (so ++ sb) = so := by rw [hk]; simp
  have e3 : List.drop k ys = sb := by
    rw [hk, ← List.drop_drop, d20]; simp
  have hz : Int.toNat ((k : Int) - 20) = k - 20 := by omega
  have e2 : 20 + (k - 20) = k := by omega
  cases h7 : (bif part == (0 : Int) then bits BinOp.and IntKind.i64 flags (1 : Int) == (0 : Int) else false)
  case false =>
    refine ⟨_, _, (outT_ok k69_ok (tcpWrites_part tos id flags part ttl proto f0 f1 f2 f3 t0 t1 t2 t3 opts body fr tp seq ack fl win urg so sb ys) ?_).1⟩
    repeat' (first | exact allNil | refine allCons ?_ ?_)
    all_goals ((try simp only [hh, hB1, hB2]) <;> (first | exact True.intro | (with_reducible exact id) | (intros; with_reducible assumption) | omega | exact h7 | (rw [h7]; rfl) | (simp (disch := first | omega | (simp; omega)) [wu8, lo8_raw, fd256, fd65536, fd16777216, w64, lo8_mod, lo8_mod2, div_div, and_u32_65535, take_len, hys, tcpH]; done) | (simp; done) | (simp; omega) | (simp (disch := first | omega | (simp; omega)) [str_toList, wu8, isB, lo8_raw, fd256, fd65536, fd16777216, w64, sameO_iff, lo8_mod, lo8_mod2, div_div, and_u32_65535, take_len, g6i, a0, a2, a4, a8, a12, a14, a18, hl, ht, hs, d20, e1, e2, e3, hz]; done) | (simp (disch := first | omega | (simp; omega)) [str_toList, wu8, isB, lo8_raw, fd256, fd65536, fd16777216, w64, sameO_iff, lo8_mod, lo8_mod2, div_div, and_u32_65535, take_len, g6i, a0, a2, a4, a8, a12, a14, a18, hl, ht, hs, d20, e1, e2, e3, hz]; omega)))
  refine ⟨_, _, ((outT_ok k69_ok (tcpWrites_ok tos id flags part ttl proto f0 f1 f2 f3 t0 t1 t2 t3 opts body fr tp seq ack fl win urg so sb ys) ?_).1).truly ?_⟩
  · repeat' (first | exact allNil | refine allCons ?_ ?_)
    all_goals ((try simp only [hh, hB1, hB2]) <;> (first | exact True.intro | (with_reducible exact id) | (intros; with_reducible assumption) | omega | exact h7 | (rw [h7]; rfl) | (simp (disch := first | omega | (simp; omega)) [wu8, lo8_raw, fd256, fd65536, fd16777216, w64, lo8_mod, lo8_mod2, div_div, and_u32_65535, take_len, hys, tcpH]; done) | (simp; done) | (simp; omega) | (simp (disch := first | omega | (simp; omega)) [str_toList, wu8, isB, lo8_raw, fd256, fd65536, fd16777216, w64, sameO_iff, lo8_mod, lo8_mod2, div_div, and_u32_65535, take_len, g6i, a0, a2, a4, a8, a12, a14, a18, hl, ht, hs, d20, e1, e2, e3, hz]; done) | (simp (disch := first | omega | (simp; omega)) [str_toList, wu8, isB, lo8_raw, fd256, fd65536, fd16777216, w64, sameO_iff, lo8_mod, lo8_mod2, div_div, and_u32_65535, take_len, g6i, a0, a2, a4, a8, a12, a14, a18, hl, ht, hs, d20, e1, e2, e3, hz]; omega)))
  · simp only [hh]; simp (disch := first | omega | (simp; omega)) [str_toList, w64, take_len, hl, ht, d20, e1, e2, e3, hz]
end Go.Proofs.Ytoekncmggjhmjaa.tcpWrites
