/- The law IcmpAbouts, walked for bytes that are a packet. -/
import Derived.Test.YtoekncmggjhmjaaAbRun
import Derived.Test.YtoekncmggjhmjaaAbRunb
import Derived.Test.YtoekncmggjhmjaaIwLaw
import Derived.Test.YtoekncmggjhmjaaAbt
namespace Go.Proofs.Ytoekncmggjhmjaa.icmpAbouts.late
open Go.RowKit

open Go.Proofs.Ytoekncmggjhmjaa.icmpWrites
theorem drop_getD (l : List UInt8) (i k : Nat) : List.getD (List.drop i (List.take l.length l)) k 0 = List.getD l (i + k) 0 := by
  rw [List.take_length]
  simp [List.getD_eq_getElem?_getD, List.getElem?_drop]

set_option maxHeartbeats 40000000 in
set_option maxRecDepth 100000 in
theorem walk (a0 a1 a2 a3 : Int) (b : List UInt8) (typ code : Int) (hb : (0 ≤ a0 ∧ a0 < 256) ∧ (0 ≤ a1 ∧ a1 < 256) ∧ (0 ≤ a2 ∧ a2 < 256) ∧ (0 ≤ a3 ∧ a3 < 256)) (hbig : ¬ 1600 < b.length) (h2 : ¬ b.length < 20) (v4 : (List.getD b 0 0).toNat / 16 = 4) (g20 : 20 ≤ hdr b) (gl : hdr b ≤ b.length) (h5b : ofL (List.take (hdr b) b) = 0) (gn : hdr b ≤ at16 b 2) (gm : at16 b 2 ≤ b.length) :
    ∃ L' nx', ACall Try.prog 22 [.agg [.val (.int .u8 a0), .val (.int .u8 a1), .val (.int .u8 a2), .val (.int .u8 a3)], .bytes b, .val (.int .i64 typ), .val (.int .i64 code)] [] 0 (.val (.bool true)) L' nx' := by
  obtain ⟨ba0, ba1, ba2, ba3⟩ := hb
  obtain ⟨n, hn⟩ : ∃ n : Nat, n = at16 b 2 := ⟨_, rfl⟩
  obtain ⟨h, hh⟩ : ∃ h : Nat, h = hdr b := ⟨_, rfl⟩
  have ph : IntKind.wrap IntKind.i64 (IntKind.wrap IntKind.i64 (bits BinOp.and IntKind.u8 (↑(UInt8.toNat (List.getD b (0 : Nat) (0 : UInt8))) : Int) (15 : Int)) * (4 : Int)) = (h : Int) := by rw [hh]; exact head_raw _
  have hlt : h ≤ 60 := by rw [hh]; exact hdr_le b
  have nlt : n ≤ 65535 := by rw [hn]; exact at16_lt b 2
  obtain ⟨v, hv⟩ : ∃ v : Nat, v = (List.getD b 0 0).toNat := ⟨_, rfl⟩
  have pv : Int.fdiv (↑(UInt8.toNat (List.getD b (0 : Nat) (0 : UInt8))) : Int) (16 : Int) = ((v / 16 : Nat) : Int) := by rw [fd16, hv]; omega
  have h5 : ofL (List.take h b) = 0 := by rw [hh]; exact h5b
  have zE : sizesE b (0 + b.length) = 0 := sizesE_zero b (0 + b.length) (by omega) v4 (by omega) (by omega) h5b (by omega) (by omega)
  have zA : sizesA b (0 + b.length) = n := by rw [sizesA_zero _ _ zE, hn]
  have zH : sizesH b (0 + b.length) = h := by rw [sizesH_zero _ _ zE, hh]
  obtain ⟨x, hx⟩ : ∃ x : Int, bits BinOp.and IntKind.i64 (↑(at16 b (6 : Nat)) : Int) (8191 : Int) = x := ⟨_, rfl⟩
  have t6 : at16 (List.take n b) 6 = at16 b 6 := at16_take _ _ _ (by omega)
  obtain ⟨v9, hv9⟩ : ∃ v9 : Nat, v9 = (List.getD b 9 0).toNat := ⟨_, rfl⟩
  have p9 : at8 (List.take n b) 9 = v9 := by rw [at8_take _ _ _ (by omega), hv9]
  have q9 : IntKind.wrap IntKind.i64 (↑(UInt8.toNat (List.getD b (9 : Nat) (0 : UInt8))) : Int) = (v9 : Int) := by rw [wrap64_u8, hv9]
  obtain ⟨c0, ec0⟩ : ∃ c : Nat, c = (List.getD b 12 0).toNat := ⟨_, rfl⟩
  have lc0 : c0 < 256 := by rw [ec0]; exact (List.getD b 12 0).toNat_lt
  have Gc0 : List.getD (List.drop 12 (List.take b.length b)) 0 0 = List.getD b 12 0 := drop_getD b 12 0
  have Fc0 : IntKind.wrap IntKind.u8 (Int.fdiv (↑(at32 (List.take n b) (12 : Nat)) : Int) (16777216 : Int)) = (c0 : Int) := by
    rw [wu8, fd16777216, at32_take _ _ _ (by omega), at32_d0 _ _ (by omega), ec0]
  obtain ⟨c1, ec1⟩ : ∃ c : Nat, c = (List.getD b 13 0).toNat := ⟨_, rfl⟩
  have lc1 : c1 < 256 := by rw [ec1]; exact (List.getD b 13 0).toNat_lt
  have Gc1 : List.getD (List.drop 12 (List.take b.length b)) 1 0 = List.getD b 13 0 := drop_getD b 12 1
  have Fc1 : IntKind.wrap IntKind.u8 (Int.fdiv (↑(at32 (List.take n b) (12 : Nat)) : Int) (65536 : Int)) = (c1 : Int) := by
    rw [wu8, fd65536, at32_take _ _ _ (by omega), at32_d1 _ _ (by omega), ec1]
  obtain ⟨c2, ec2⟩ : ∃ c : Nat, c = (List.getD b 14 0).toNat := ⟨_, rfl⟩
  have lc2 : c2 < 256 := by rw [ec2]; exact (List.getD b 14 0).toNat_lt
  have Gc2 : List.getD (List.drop 12 (List.take b.length b)) 2 0 = List.getD b 14 0 := drop_getD b 12 2
  have Fc2 : IntKind.wrap IntKind.u8 (Int.fdiv (↑(at32 (List.take n b) (12 : Nat)) : Int) (256 : Int)) = (c2 : Int) := by
    rw [wu8, fd256, at32_take _ _ _ (by omega), at32_d2 _ _ (by omega), ec2]
  obtain ⟨c3, ec3⟩ : ∃ c : Nat, c = (List.getD b 15 0).toNat := ⟨_, rfl⟩
  have lc3 : c3 < 256 := by rw [ec3]; exact (List.getD b 15 0).toNat_lt
  have Gc3 : List.getD (List.drop 12 (List.take b.length b)) 3 0 = List.getD b 15 0 := drop_getD b 12 3
  have Fc3 : IntKind.wrap IntKind.u8 ((↑(at32 (List.take n b) (12 : Nat)) : Int)) = (c3 : Int) := by
    rw [wu8, at32_take _ _ _ (by omega), at32_d3 _ _ (by omega), ec3]
  obtain ⟨d0, ed0⟩ : ∃ c : Nat, c = (List.getD b 16 0).toNat := ⟨_, rfl⟩
  have ld0 : d0 < 256 := by rw [ed0]; exact (List.getD b 16 0).toNat_lt
  have Gd0 : List.getD (List.drop 16 (List.take b.length b)) 0 0 = List.getD b 16 0 := drop_getD b 16 0
  have Fd0 : IntKind.wrap IntKind.u8 (Int.fdiv (↑(at32 (List.take n b) (16 : Nat)) : Int) (16777216 : Int)) = (d0 : Int) := by
    rw [wu8, fd16777216, at32_take _ _ _ (by omega), at32_d0 _ _ (by omega), ed0]
  obtain ⟨d1, ed1⟩ : ∃ c : Nat, c = (List.getD b 17 0).toNat := ⟨_, rfl⟩
  have ld1 : d1 < 256 := by rw [ed1]; exact (List.getD b 17 0).toNat_lt
  have Gd1 : List.getD (List.drop 16 (List.take b.length b)) 1 0 = List.getD b 17 0 := drop_getD b 16 1
  have Fd1 : IntKind.wrap IntKind.u8 (Int.fdiv (↑(at32 (List.take n b) (16 : Nat)) : Int) (65536 : Int)) = (d1 : Int) := by
    rw [wu8, fd65536, at32_take _ _ _ (by omega), at32_d1 _ _ (by omega), ed1]
  obtain ⟨d2, ed2⟩ : ∃ c : Nat, c = (List.getD b 18 0).toNat := ⟨_, rfl⟩
  have ld2 : d2 < 256 := by rw [ed2]; exact (List.getD b 18 0).toNat_lt
  have Gd2 : List.getD (List.drop 16 (List.take b.length b)) 2 0 = List.getD b 18 0 := drop_getD b 16 2
  have Fd2 : IntKind.wrap IntKind.u8 (Int.fdiv (↑(at32 (List.take n b) (16 : Nat)) : Int) (256 : Int)) = (d2 : Int) := by
    rw [wu8, fd256, at32_take _ _ _ (by omega), at32_d2 _ _ (by omega), ed2]
  obtain ⟨d3, ed3⟩ : ∃ c : Nat, c = (List.getD b 19 0).toNat := ⟨_, rfl⟩
  have ld3 : d3 < 256 := by rw [ed3]; exact (List.getD b 19 0).toNat_lt
  have Gd3 : List.getD (List.drop 16 (List.take b.length b)) 3 0 = List.getD b 19 0 := drop_getD b 16 3
  have Fd3 : IntKind.wrap IntKind.u8 ((↑(at32 (List.take n b) (16 : Nat)) : Int)) = (d3 : Int) := by
    rw [wu8, at32_take _ _ _ (by omega), at32_d3 _ _ (by omega), ed3]
  obtain ⟨m, hm⟩ : ∃ m, m = n - h := ⟨_, rfl⟩
  have hW : IntKind.wrap IntKind.i64 ((h : Int) - 20) = ((h - 20 : Nat) : Int) := by rw [w64 _ (by omega)]; omega
  have hBL : 0 + n - 1 - 1 - 2 - 2 - 2 - 1 - 1 - 2 - 4 - 4 - (h - 20) = m := by omega
  obtain ⟨bd, hbd⟩ : ∃ bd, List.drop h (List.take n b) = bd := ⟨_, rfl⟩
  have bl : bd.length = m := by rw [← hbd, List.length_drop, List.length_take]; omega
  have eB : List.take m (List.drop (20 + (h - 20)) (List.take n b)) = bd := by rw [show 20 + (h - 20) = h from by omega, hbd, List.take_of_length_le (by omega)]
  obtain ⟨p0, hp0⟩ : ∃ p0 : Nat, p0 = (List.getD bd 0 0).toNat := ⟨_, rfl⟩
  have ol : (List.drop 20 (List.take h b)).length = h - 20 := by rw [List.length_drop, List.length_take]; omega
  by_cases hA : x ≤ 0 ∧ (¬ (c0 = 0 ∧ c1 = 0 ∧ c2 = 0 ∧ c3 = 0) ∧ c0 ≤ 223) ∧ (¬ (d0 = 0 ∧ d1 = 0 ∧ d2 = 0 ∧ d3 = 0) ∧ d0 ≤ 223)
  case neg =>
    refine ⟨_, _, (outT_ok k6s_ok (icmpAbouts_deny a0 a1 a2 a3 b typ code) ?_).1⟩
    repeat' (first | with_reducible exact allNil | with_reducible refine allCons ?_ ?_ | with_reducible refine allRp _ ?_ ?_)
    all_goals ((try simp only [zE, zA, zH, hW, Int.toNat_natCast, ph, pv, ← hn, t6, hx, hBL, hbd, Gc0, Gc1, Gc2, Gc3, Gd0, Gd1, Gd2, Gd3, ← ec0, ← ec1, ← ec2, ← ec3, ← ed0, ← ed1, ← ed2, ← ed3, Fc0, Fc1, Fc2, Fc3, Fd0, Fd1, Fd2, Fd3]) <;> (first | exact True.intro | (with_reducible exact id) | (intros; with_reducible assumption) | omega | (simp; done) | (simp; omega) | (simp (disch := first | omega | (simp; omega)) [sameO_iff]; done) | (simp (disch := first | omega | (simp; omega)) [str_toList, wu8, isB, lo8_raw, fd256, fd65536, fd16777216, w64, sameO_iff, lo8_mod, lo8_mod2, div_div, and_u32_65535, take_len, h5, bl, ol]; omega)))
  obtain ⟨hA1, ⟨hA2, hA3⟩, hA4, hA5⟩ := hA
  have A0 : decide (x > (0 : Int)) = false := decide_eq_false (by omega)
  have A1 : ((c0 : Int) == 0 && ((c1 : Int) == 0 && ((c2 : Int) == 0 && ((c3 : Int) == 0 && true)))) = false := by
    cases hq : ((c0 : Int) == 0 && ((c1 : Int) == 0 && ((c2 : Int) == 0 && ((c3 : Int) == 0 && true))))
    · rfl
    · simp at hq; omega
  have A2 : decide ((c0 : Int) ≤ 223) = true := decide_eq_true (by omega)
  have A3 : decide ((c0 : Int) > 223) = false := decide_eq_false (by omega)
  have D1 : ((d0 : Int) == 0 && ((d1 : Int) == 0 && ((d2 : Int) == 0 && ((d3 : Int) == 0 && true)))) = false := by
    cases hq : ((d0 : Int) == 0 && ((d1 : Int) == 0 && ((d2 : Int) == 0 && ((d3 : Int) == 0 && true))))
    · rfl
    · simp at hq; omega
  have D2 : decide ((d0 : Int) ≤ 223) = true := decide_eq_true (by omega)
  have D3 : decide ((d0 : Int) > 223) = false := decide_eq_false (by omega)
  clear hA1 hA2 hA3 hA4 hA5
  by_cases hB : v9 = 1 → 8 ≤ m ∧ (p0 = 0 ∨ p0 = 8)
  case neg =>
    refine ⟨_, _, (outT_ok k6s_ok (icmpAbouts_deny2 a0 a1 a2 a3 b typ code) ?_).1⟩
    repeat' (first | with_reducible exact allNil | with_reducible refine allCons ?_ ?_ | with_reducible refine allRp _ ?_ ?_)
    all_goals ((try simp only [zE, zA, zH, hW, Int.toNat_natCast, ph, pv, ← hn, t6, hx, p9, q9, hBL, eB, hbd, ← hp0, Gc0, Gc1, Gc2, Gc3, Gd0, Gd1, Gd2, Gd3, ← ec0, ← ec1, ← ec2, ← ec3, ← ed0, ← ed1, ← ed2, ← ed3, Fc0, Fc1, Fc2, Fc3, Fd0, Fd1, Fd2, Fd3, A0, A1, A2, A3, D1, D2, D3]) <;> (first | exact True.intro | (with_reducible exact id) | (intros; with_reducible assumption) | omega | (simp; done) | (simp; omega) | (simp (disch := first | omega | (simp; omega)) [sameO_iff]; done) | (simp (disch := first | omega | (simp; omega)) [str_toList, wu8, isB, lo8_raw, fd256, fd65536, fd16777216, w64, sameO_iff, lo8_mod, lo8_mod2, div_div, and_u32_65535, take_len, h5, bl, ol]; omega)))
  by_cases hC : (0 ≤ typ ∧ typ ≤ 255) ∧ (0 ≤ code ∧ code ≤ 255)
  case neg =>
    refine ⟨_, _, (outT_ok k6s_ok (icmpAbouts_arg a0 a1 a2 a3 b typ code) ?_).1⟩
    repeat' (first | with_reducible exact allNil | with_reducible refine allCons ?_ ?_ | with_reducible refine allRp _ ?_ ?_)
    all_goals ((try simp only [zE, zA, zH, hW, Int.toNat_natCast, ph, pv, ← hn, t6, hx, p9, q9, hBL, eB, hbd, ← hp0, Gc0, Gc1, Gc2, Gc3, Gd0, Gd1, Gd2, Gd3, ← ec0, ← ec1, ← ec2, ← ec3, ← ed0, ← ed1, ← ed2, ← ed3, Fc0, Fc1, Fc2, Fc3, Fd0, Fd1, Fd2, Fd3, A0, A1, A2, A3, D1, D2, D3]) <;> (first | exact True.intro | (with_reducible exact id) | (intros; with_reducible assumption) | omega | (simp; done) | (simp; omega) | (simp (disch := first | omega | (simp; omega)) [w64, sameO_iff]; done) | (simp (disch := first | omega | (simp; omega)) [w64]; omega)))
  obtain ⟨⟨hC1, hC2⟩, hC3, hC4⟩ := hC
  by_cases hD : 8 < m
  case pos =>
    obtain ⟨M, hM⟩ : ∃ M, M = h + 8 := ⟨_, rfl⟩
    have w1 : IntKind.wrap IntKind.i64 ((h : Int) + (if (8 : Int) < (↑(0 + m) : Int) then (8 : Int) else (↑(0 + m) : Int))) = (M : Int) := by rw [if_pos (by omega), w64 _ (by omega)]; omega
    have w2 : IntKind.wrap IntKind.i64 (IntKind.wrap IntKind.i64 ((20 : Int) + (↑(0 + (List.drop 20 (List.take h b)).length) : Int)) + (8 : Int)) = (M : Int) := by rw [ol, w64 (20 + ((0 + (h - 20) : Nat) : Int)) (by omega), w64 _ (by omega)]; omega
    have tl : (List.take M b).length = M := by rw [List.length_take]; omega
    obtain ⟨ys, hys⟩ : ∃ ys, ys = icmpB typ code 0 (List.take M b) := ⟨_, rfl⟩
    have yl : ys.length = 8 + M := by rw [hys, icmpB_len, tl]
    have yt : List.take (8 + M) ys = ys := List.take_of_length_le (by omega)
    refine ⟨_, _, ((outT_ok k6s_ok (icmpAbouts_ok a0 a1 a2 a3 b typ code ys) ?_).1).truly ?_⟩
    · repeat' (first | with_reducible exact allNil | with_reducible refine allCons ?_ ?_ | with_reducible refine allRp _ ?_ ?_)
      all_goals ((try simp only [zE, zA, zH, hW, Int.toNat_natCast, ph, pv, ← hn, t6, hx, p9, q9, hBL, eB, hbd, ← hp0, Gc0, Gc1, Gc2, Gc3, Gd0, Gd1, Gd2, Gd3, ← ec0, ← ec1, ← ec2, ← ec3, ← ed0, ← ed1, ← ed2, ← ed3, Fc0, Fc1, Fc2, Fc3, Fd0, Fd1, Fd2, Fd3, w1, w2, tl, A0, A1, A2, A3, D1, D2, D3]) <;> (first | exact True.intro | (with_reducible exact id) | (intros; with_reducible assumption) | omega | (refine Eq.trans ?_ hys.symm; simp (disch := first | omega | (simp; omega)) [wu8, lo8_raw, fd256, take_len, icmpB, icmpH, icmpS, show lo8 0 = 0 from rfl]; done) | (simp; done) | (simp; omega) | (simp (disch := first | omega | (simp; omega)) [wu8, isB, lo8_raw, fd256, sameO_iff, take_len]; done) | (simp (disch := first | omega | (simp; omega)) [wu8, isB, lo8_raw, fd256, take_len]; omega)))
    · simp only [zA, zH, hW, Int.toNat_natCast, ph, hBL, w1, w2, tl]; simp (disch := first | omega | (simp; omega)) [take_len]
  case neg =>
    obtain ⟨M, hM⟩ : ∃ M, M = h + m := ⟨_, rfl⟩
    have w1 : IntKind.wrap IntKind.i64 ((h : Int) + (if (8 : Int) < (↑(0 + m) : Int) then (8 : Int) else (↑(0 + m) : Int))) = (M : Int) := by rw [if_neg (by omega), w64 _ (by omega)]; omega
    have w2 : IntKind.wrap IntKind.i64 (IntKind.wrap IntKind.i64 ((20 : Int) + (↑(0 + (List.drop 20 (List.take h b)).length) : Int)) + (↑(0 + bd.length) : Int)) = (M : Int) := by rw [ol, bl, w64 (20 + ((0 + (h - 20) : Nat) : Int)) (by omega), w64 _ (by omega)]; omega
    have tl : (List.take M b).length = M := by rw [List.length_take]; omega
    obtain ⟨ys, hys⟩ : ∃ ys, ys = icmpB typ code 0 (List.take M b) := ⟨_, rfl⟩
    have yl : ys.length = 8 + M := by rw [hys, icmpB_len, tl]
    have yt : List.take (8 + M) ys = ys := List.take_of_length_le (by omega)
    refine ⟨_, _, ((outT_ok k6s_ok (icmpAbouts_few a0 a1 a2 a3 b typ code ys) ?_).1).truly ?_⟩
    · repeat' (first | with_reducible exact allNil | with_reducible refine allCons ?_ ?_ | with_reducible refine allRp _ ?_ ?_)
      all_goals ((try simp only [zE, zA, zH, hW, Int.toNat_natCast, ph, pv, ← hn, t6, hx, p9, q9, hBL, eB, hbd, ← hp0, Gc0, Gc1, Gc2, Gc3, Gd0, Gd1, Gd2, Gd3, ← ec0, ← ec1, ← ec2, ← ec3, ← ed0, ← ed1, ← ed2, ← ed3, Fc0, Fc1, Fc2, Fc3, Fd0, Fd1, Fd2, Fd3, w1, w2, tl, A0, A1, A2, A3, D1, D2, D3]) <;> (first | exact True.intro | (with_reducible exact id) | (intros; with_reducible assumption) | omega | (refine Eq.trans ?_ hys.symm; simp (disch := first | omega | (simp; omega)) [wu8, lo8_raw, fd256, take_len, icmpB, icmpH, icmpS, show lo8 0 = 0 from rfl]; done) | (simp; done) | (simp; omega) | (simp (disch := first | omega | (simp; omega)) [wu8, isB, lo8_raw, fd256, sameO_iff, take_len]; done) | (simp (disch := first | omega | (simp; omega)) [wu8, isB, lo8_raw, fd256, take_len]; omega)))
    · simp only [zA, zH, hW, Int.toNat_natCast, ph, ← hn, hBL, hbd, w1, w2, tl]; simp (disch := first | omega | (simp; omega)) [take_len]
end Go.Proofs.Ytoekncmggjhmjaa.icmpAbouts.late
