/- The law Ip4Behind, walked: whatever is given, it answers true. -/
import Derived.Test.YtoekncmggjhmjaaPbRun
import Derived.Test.YtoekncmggjhmjaaPm
namespace Go.Proofs.Ytoekncmggjhmjaa.ip4Behind
open Go.RowKit

set_option maxHeartbeats 4000000 in
theorem walk (tos id flags part ttl proto f0 f1 f2 f3 t0 t1 t2 t3 : Int) (opts body : List UInt8) (more : List UInt8) (cut : Int) (hb : (0 ≤ f0 ∧ f0 < 256) ∧ (0 ≤ f1 ∧ f1 < 256) ∧ (0 ≤ f2 ∧ f2 < 256) ∧ (0 ≤ f3 ∧ f3 < 256) ∧ (0 ≤ t0 ∧ t0 < 256) ∧ (0 ≤ t1 ∧ t1 < 256) ∧ (0 ≤ t2 ∧ t2 < 256) ∧ (0 ≤ t3 ∧ t3 < 256)) :
    ∃ L' nx', ACall Try.prog 19 [.agg [.val (.int .i64 tos), .val (.int .i64 id), .val (.int .i64 flags), .val (.int .i64 part), .val (.int .i64 ttl), .val (.int .i64 proto), .val (.int .u8 f0), .val (.int .u8 f1), .val (.int .u8 f2), .val (.int .u8 f3), .val (.int .u8 t0), .val (.int .u8 t1), .val (.int .u8 t2), .val (.int .u8 t3), .bytes opts, .bytes body], .bytes more, .val (.int .i64 cut)] [] 0 (.val (.bool true)) L' nx' := by
  obtain ⟨bf0, bf1, bf2, bf3, bt0, bt1, bt2, bt3⟩ := hb
  by_cases h1 : 1600 < body.length
  · refine ⟨_, _, (outT_ok k6s_ok (ip4Behind_big1 tos id flags part ttl proto f0 f1 f2 f3 t0 t1 t2 t3 opts body more cut) ?_).1⟩
    repeat' (first | exact allNil | refine allCons ?_ ?_)
    all_goals first | exact True.intro | (with_reducible exact id) | (intros; with_reducible assumption) | omega | (simp; done) | (simp; omega) | (simp (disch := first | omega | (simp; omega)) [str_toList, wu8, isB, lo8_raw, fd256, fd65536, fd16777216, w64, sameO_iff, lo8_mod, lo8_mod2, div_div, and_u32_65535, take_len]; done) | (simp (disch := first | omega | (simp; omega)) [str_toList, wu8, isB, lo8_raw, fd256, fd65536, fd16777216, w64, sameO_iff, lo8_mod, lo8_mod2, div_div, and_u32_65535, take_len]; omega)
  by_cases h2 : 100 < opts.length
  · refine ⟨_, _, (outT_ok k6s_ok (ip4Behind_big2 tos id flags part ttl proto f0 f1 f2 f3 t0 t1 t2 t3 opts body more cut) ?_).1⟩
    repeat' (first | exact allNil | refine allCons ?_ ?_)
    all_goals first | exact True.intro | (with_reducible exact id) | (intros; with_reducible assumption) | omega | (simp; done) | (simp; omega) | (simp (disch := first | omega | (simp; omega)) [str_toList, wu8, isB, lo8_raw, fd256, fd65536, fd16777216, w64, sameO_iff, lo8_mod, lo8_mod2, div_div, and_u32_65535, take_len]; done) | (simp (disch := first | omega | (simp; omega)) [str_toList, wu8, isB, lo8_raw, fd256, fd65536, fd16777216, w64, sameO_iff, lo8_mod, lo8_mod2, div_div, and_u32_65535, take_len]; omega)
  by_cases h3 : 100 < more.length
  · refine ⟨_, _, (outT_ok k6s_ok (ip4Behind_big3 tos id flags part ttl proto f0 f1 f2 f3 t0 t1 t2 t3 opts body more cut) ?_).1⟩
    repeat' (first | exact allNil | refine allCons ?_ ?_)
    all_goals first | exact True.intro | (with_reducible exact id) | (intros; with_reducible assumption) | omega | (simp; done) | (simp; omega) | (simp (disch := first | omega | (simp; omega)) [str_toList, wu8, isB, lo8_raw, fd256, fd65536, fd16777216, w64, sameO_iff, lo8_mod, lo8_mod2, div_div, and_u32_65535, take_len]; done) | (simp (disch := first | omega | (simp; omega)) [str_toList, wu8, isB, lo8_raw, fd256, fd65536, fd16777216, w64, sameO_iff, lo8_mod, lo8_mod2, div_div, and_u32_65535, take_len]; omega)
  cases hg : goodB tos id flags part ttl proto opts.length
  case false =>
    refine ⟨_, _, (outT_ok k6s_ok (ip4Behind_arg tos id flags part ttl proto f0 f1 f2 f3 t0 t1 t2 t3 opts body more cut) ?_).1⟩
    repeat' (first | exact allNil | refine allCons ?_ ?_)
    all_goals first | exact True.intro | (with_reducible exact id) | (intros; with_reducible assumption) | omega | (simp; done) | (simp; omega) | (simp (disch := first | omega | (simp; omega)) [str_toList, wu8, isB, lo8_raw, fd256, fd65536, fd16777216, w64, sameO_iff, lo8_mod, lo8_mod2, div_div, and_u32_65535, take_len, hg]; done) | (simp (disch := first | omega | (simp; omega)) [str_toList, wu8, isB, lo8_raw, fd256, fd65536, fd16777216, w64, sameO_iff, lo8_mod, lo8_mod2, div_div, and_u32_65535, take_len, hg]; omega)
  have hgp : goodP tos id flags part ttl proto opts.length := of_decide_eq_true hg
  obtain ⟨g0, g1, g2, g3, g4, g5, g6, g7⟩ := hgp
  by_cases h4 : 1480 - opts.length < body.length
  · refine ⟨_, _, (outT_ok k6s_ok (ip4Behind_limit tos id flags part ttl proto f0 f1 f2 f3 t0 t1 t2 t3 opts body more cut) ?_).1⟩
    repeat' (first | exact allNil | refine allCons ?_ ?_)
    all_goals first | exact True.intro | (with_reducible exact id) | (intros; with_reducible assumption) | omega | (simp; done) | (simp; omega) | (simp (disch := first | omega | (simp; omega)) [w64]; done) | (simp (disch := first | omega | (simp; omega)) [w64]; omega)
  obtain ⟨ys, hys⟩ : ∃ ys, ys = ipH tos id flags part ttl proto f0 f1 f2 f3 t0 t1 t2 t3 opts (20 + (opts.length : Int) + (body.length : Int)) (lo8 ((ofL (ipH tos id flags part ttl proto f0 f1 f2 f3 t0 t1 t2 t3 opts (20 + (opts.length : Int) + (body.length : Int)) 0 0) : Nat) / 256)) (lo8 (ofL (ipH tos id flags part ttl proto f0 f1 f2 f3 t0 t1 t2 t3 opts (20 + (opts.length : Int) + (body.length : Int)) 0 0) : Nat)) ++ body := ⟨_, rfl⟩
  have vr := version_raw opts g6
  have pr := part_raw flags part g2 g3
  have hl : ys.length = 20 + opts.length + body.length := by rw [hys, List.length_append, ipH_len]
  have ht : List.take (20 + opts.length + body.length) ys = ys := List.take_of_length_le (by omega)
  by_cases h5 : cut < 0
  · refine ⟨_, _, (outT_ok k6s_ok (ip4Behind_low tos id flags part ttl proto f0 f1 f2 f3 t0 t1 t2 t3 opts body more cut ys) ?_).1⟩
    repeat' (first | exact allNil | refine allCons ?_ ?_)
    all_goals first | exact True.intro | (with_reducible exact id) | (intros; with_reducible assumption) | omega | (refine Eq.trans ?_ hys.symm; simp only [vr, pr]; simp (disch := first | omega | (simp; omega)) [wu8, lo8_raw, fd256, w64, take_len, ipH]; done) | (simp; done) | (simp; omega) | (simp (disch := first | omega | (simp; omega)) [wu8, isB, lo8_raw, fd256, w64, take_len]; done) | (simp (disch := first | omega | (simp; omega)) [wu8, isB, lo8_raw, fd256, w64, take_len]; omega)
  by_cases h6 : 20 + (opts.length : Int) + (body.length : Int) ≤ cut
  · refine ⟨_, _, (outT_ok k6s_ok (ip4Behind_high tos id flags part ttl proto f0 f1 f2 f3 t0 t1 t2 t3 opts body more cut ys) ?_).1⟩
    repeat' (first | exact allNil | refine allCons ?_ ?_)
    all_goals first | exact True.intro | (with_reducible exact id) | (intros; with_reducible assumption) | omega | (refine Eq.trans ?_ hys.symm; simp only [vr, pr]; simp (disch := first | omega | (simp; omega)) [wu8, lo8_raw, fd256, w64, take_len, ipH]; done) | (simp; done) | (simp; omega) | (simp (disch := first | omega | (simp; omega)) [wu8, isB, lo8_raw, fd256, w64, take_len]; done) | (simp (disch := first | omega | (simp; omega)) [wu8, isB, lo8_raw, fd256, w64, take_len]; omega)
  obtain ⟨zs, hzs⟩ : ∃ zs, List.take (20 + opts.length + body.length) ys ++ more = zs := ⟨_, rfl⟩
  have hz2 : zs = ipH tos id flags part ttl proto f0 f1 f2 f3 t0 t1 t2 t3 opts (20 + (opts.length : Int) + (body.length : Int)) (lo8 ((ofL (ipH tos id flags part ttl proto f0 f1 f2 f3 t0 t1 t2 t3 opts (20 + (opts.length : Int) + (body.length : Int)) 0 0) : Nat) / 256)) (lo8 (ofL (ipH tos id flags part ttl proto f0 f1 f2 f3 t0 t1 t2 t3 opts (20 + (opts.length : Int) + (body.length : Int)) 0 0) : Nat)) ++ (body ++ more) := by rw [← hzs, ht, hys, List.append_assoc]
  have hz0 : zs = ys ++ more := by rw [← hzs, ht]
  have zn : at16 zs 2 = 20 + opts.length + body.length := by
    have := ipH_n tos id flags part ttl proto f0 f1 f2 f3 t0 t1 t2 t3 opts (20 + (opts.length : Int) + (body.length : Int)) (lo8 ((ofL (ipH tos id flags part ttl proto f0 f1 f2 f3 t0 t1 t2 t3 opts (20 + (opts.length : Int) + (body.length : Int)) 0 0) : Nat) / 256)) (lo8 (ofL (ipH tos id flags part ttl proto f0 f1 f2 f3 t0 t1 t2 t3 opts (20 + (opts.length : Int) + (body.length : Int)) 0 0) : Nat)) (body ++ more) (by omega)
    rw [hz2]; omega
  have zid : ((at16 zs 4 : Nat) : Int) = id := by rw [hz2]; exact ipH_id _ _ _ _ _ _ _ _ _ _ _ _ _ _ _ _ _ _ _ g1
  have zx : ((at16 zs 6 : Nat) : Int) = flags * 8192 + part := by rw [hz2]; exact ipH_x _ _ _ _ _ _ _ _ _ _ _ _ _ _ _ _ _ _ _ g2 g3
  have ztos : ((zs.getD 1 0).toNat : Int) = tos := by rw [hz2]; exact ipH_tos _ _ _ _ _ _ _ _ _ _ _ _ _ _ _ _ _ _ _ g0
  have zttl : ((zs.getD 8 0).toNat : Int) = ttl := by rw [hz2]; exact ipH_ttl _ _ _ _ _ _ _ _ _ _ _ _ _ _ _ _ _ _ _ g4
  have zpr : ((zs.getD 9 0).toNat : Int) = proto := by rw [hz2]; exact ipH_proto _ _ _ _ _ _ _ _ _ _ _ _ _ _ _ _ _ _ _ g5
  have zh : hdr zs = 20 + opts.length := by rw [hz2]; exact ipH_hdr _ _ _ _ _ _ _ _ _ _ _ _ _ _ _ _ _ _ _ g6 g7
  have zb : (zs.getD 0 0).toNat / 16 = 4 := by rw [hz2, ipH_b0 _ _ _ _ _ _ _ _ _ _ _ _ _ _ _ _ _ _ _ g6]; omega
  have zt : List.take (20 + opts.length) zs = ipH tos id flags part ttl proto f0 f1 f2 f3 t0 t1 t2 t3 opts (20 + (opts.length : Int) + (body.length : Int)) (lo8 ((ofL (ipH tos id flags part ttl proto f0 f1 f2 f3 t0 t1 t2 t3 opts (20 + (opts.length : Int) + (body.length : Int)) 0 0) : Nat) / 256)) (lo8 (ofL (ipH tos id flags part ttl proto f0 f1 f2 f3 t0 t1 t2 t3 opts (20 + (opts.length : Int) + (body.length : Int)) 0 0) : Nat)) := by rw [hz2]; exact ipH_take _ _ _ _ _ _ _ _ _ _ _ _ _ _ _ _ _ _ _
  have zsm : ofL (List.take (hdr zs) zs) = 0 := by rw [zh, zt]; exact ipH_sum _ _ _ _ _ _ _ _ _ _ _ _ _ _ _ _ _ _ (put_sum _ (ofL_le _))
  have zf := four_d f0 f1 f2 f3 bf0 bf1 bf2 bf3 (at32 zs 12) (by rw [hz2]; exact ipH_from _ _ _ _ _ _ _ _ _ _ _ _ _ _ _ _ _ _ _)
  have zto := four_d t0 t1 t2 t3 bt0 bt1 bt2 bt3 (at32 zs 16) (by rw [hz2]; exact ipH_to _ _ _ _ _ _ _ _ _ _ _ _ _ _ _ _ _ _ _)
  obtain ⟨zf0, zf1, zf2, zf3⟩ := zf
  obtain ⟨zt0, zt1, zt2, zt3⟩ := zto
  have zd : List.drop 20 zs = opts ++ (body ++ more) := by rw [hz2]; rfl
  have zl : zs.length = 20 + opts.length + body.length + more.length := by rw [hz0, List.length_append, hl]
  obtain ⟨n, hn⟩ : ∃ n, n = 20 + opts.length + body.length := ⟨_, rfl⟩
  obtain ⟨h, hh⟩ : ∃ h, h = 20 + opts.length := ⟨_, rfl⟩
  have zE : sizesE zs (0 + (20 + opts.length + body.length) + more.length) = 0 := sizesE_zero _ _ (by omega) zb (by omega) (by omega) zsm (by omega) (by omega)
  have zA : sizesA zs (0 + (20 + opts.length + body.length) + more.length) = n := by rw [sizesA_zero _ _ zE, zn, hn]
  have zH : sizesH zs (0 + (20 + opts.length + body.length) + more.length) = h := by rw [sizesH_zero _ _ zE, zh, hh]
  have yb : (ys.getD 0 0).toNat / 16 = 4 := by rw [hys, ipH_b0 _ _ _ _ _ _ _ _ _ _ _ _ _ _ _ _ _ _ _ g6]; omega
  have yh : hdr ys = 20 + opts.length := by rw [hys]; exact ipH_hdr _ _ _ _ _ _ _ _ _ _ _ _ _ _ _ _ _ _ _ g6 g7
  have yn : at16 ys 2 = 20 + opts.length + body.length := by
    have := ipH_n tos id flags part ttl proto f0 f1 f2 f3 t0 t1 t2 t3 opts (20 + (opts.length : Int) + (body.length : Int)) (lo8 ((ofL (ipH tos id flags part ttl proto f0 f1 f2 f3 t0 t1 t2 t3 opts (20 + (opts.length : Int) + (body.length : Int)) 0 0) : Nat) / 256)) (lo8 (ofL (ipH tos id flags part ttl proto f0 f1 f2 f3 t0 t1 t2 t3 opts (20 + (opts.length : Int) + (body.length : Int)) 0 0) : Nat)) body (by omega)
    rw [hys]; omega
  have yt : List.take (20 + opts.length) ys = ipH tos id flags part ttl proto f0 f1 f2 f3 t0 t1 t2 t3 opts (20 + (opts.length : Int) + (body.length : Int)) (lo8 ((ofL (ipH tos id flags part ttl proto f0 f1 f2 f3 t0 t1 t2 t3 opts (20 + (opts.length : Int) + (body.length : Int)) 0 0) : Nat) / 256)) (lo8 (ofL (ipH tos id flags part ttl proto f0 f1 f2 f3 t0 t1 t2 t3 opts (20 + (opts.length : Int) + (body.length : Int)) 0 0) : Nat)) := by rw [hys]; exact ipH_take _ _ _ _ _ _ _ _ _ _ _ _ _ _ _ _ _ _ _
  have ysm : ofL (List.take (hdr ys) ys) = 0 := by rw [yh, yt]; exact ipH_sum _ _ _ _ _ _ _ _ _ _ _ _ _ _ _ _ _ _ (put_sum _ (ofL_le _))
  have yE : sizesE ys (Int.toNat cut) = 3 := sizesE_cut _ _ yb (by omega) ysm (by omega) (by omega)
  have e0 : List.take n zs = ys := by rw [hz0, hn, ← hl, List.take_append_of_le_length (by omega), List.take_of_length_le (by omega)]
  have e1 : List.take (h - 20) (List.drop 20 ys) = opts := by
    have : List.drop 20 ys = opts ++ body := by rw [hys]; rfl
    rw [this, hh, show 20 + opts.length - 20 = opts.length from by omega]; simp
  have e2 : 20 + (h - 20) = h := by omega
  have e3 : List.drop h ys = body := by
    have : List.drop 20 ys = opts ++ body := by rw [hys]; rfl
    rw [hh, ← List.drop_drop, this]; simp
  have hz : Int.toNat ((h : Int) - 20) = h - 20 := by omega
  have px : (flags * 8192 + part) / 8192 = flags := by omega
  have py : (flags * 8192 + part) % 8192 = part := by omega
  have y4 : ((at16 ys 4 : Nat) : Int) = id := by rw [← e0, at16_take _ _ _ (by omega)]; exact zid
  have y6 : ((at16 ys 6 : Nat) : Int) = flags * 8192 + part := by rw [← e0, at16_take _ _ _ (by omega)]; exact zx
  have y1 : ((at8 ys 1 : Nat) : Int) = tos := by rw [← e0, at8_take _ _ _ (by omega)]; exact ztos
  have y8 : ((at8 ys 8 : Nat) : Int) = ttl := by rw [← e0, at8_take _ _ _ (by omega)]; exact zttl
  have y9 : ((at8 ys 9 : Nat) : Int) = proto := by rw [← e0, at8_take _ _ _ (by omega)]; exact zpr
  have y12 : at32 zs 12 = at32 ys 12 := by rw [← e0, at32_take _ _ _ (by omega)]
  have y16 : at32 zs 16 = at32 ys 16 := by rw [← e0, at32_take _ _ _ (by omega)]
  rw [y12] at zf0 zf1 zf2 zf3
  rw [y16] at zt0 zt1 zt2 zt3
  refine ⟨_, _, ((outS_ok k6s_ok (ip4Behind_ok tos id flags part ttl proto f0 f1 f2 f3 t0 t1 t2 t3 opts body more cut ys) ?_).1).truly ?_⟩
  · repeat' (first | exact allNil | refine allCons ?_ ?_)
    all_goals ((try simp only [hzs, zE, zA, zH, yE]) <;> (first | exact True.intro | (with_reducible exact id) | (intros; with_reducible assumption) | omega | (refine Eq.trans ?_ hys.symm; simp only [vr, pr]; simp (disch := first | omega | (simp; omega)) [wu8, lo8_raw, fd256, w64, take_len, ipH]; done) | (simp only [e0]; omega) | (simp; done) | (simp; omega) | (simp (disch := first | omega | (simp; omega)) [wu8, isB, lo8_raw, fd256, fd65536, fd16777216, w64, sameO_iff, take_len, hl, e0, e1, e2, e3, hz, and_8191, fd8192, px, py, y4, y6, y1, y8, y9, zf0, zf1, zf2, zf3, zt0, zt1, zt2, zt3]; done) | (simp (disch := first | omega | (simp; omega)) [wu8, isB, lo8_raw, fd256, w64, take_len, hl, e0, e1, e2, hz]; omega)))
  · simp only [yE]; rfl
end Go.Proofs.Ytoekncmggjhmjaa.ip4Behind
