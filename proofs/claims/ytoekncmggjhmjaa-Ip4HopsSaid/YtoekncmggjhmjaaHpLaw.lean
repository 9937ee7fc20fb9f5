/- The law Ip4Hops, walked: whatever is given, it answers true. -/
import Derived.Test.YtoekncmggjhmjaaHpRun
import Derived.Test.YtoekncmggjhmjaaHpP
import Derived.Test.YtoekncmggjhmjaaPm
set_option linter.unusedSimpArgs false
set_option linter.unusedVariables false
namespace Go.Proofs.Ytoekncmggjhmjaa.ip4Hops
open Go.RowKit

theorem sumPair (x y : UInt8) : Int.toNat (((x.toNat * 256 + y.toNat : Nat) : Int) % 65536) = x.toNat * 256 + y.toNat := by
  have := x.toNat_lt
  have := y.toNat_lt
  omega

set_option maxHeartbeats 4000000 in
theorem hp_loop (n : Nat) (tos id flags part ttl proto f0 f1 f2 f3 t0 t1 t2 t3 : Int) (opts body : List UInt8) (hn : n ≤ 300) (g : goodP tos id flags part ttl proto opts.length) (hb : body.length ≤ 1480) (hl : 20 + opts.length + body.length ≤ 1500) : ∀ (k i : Nat) (ys : List UInt8), i + k = n → hpB tos id flags part proto f0 f1 f2 f3 t0 t1 t2 t3 opts body (ttl - i) ys → (i = 0 ∨ (i : Int) < ttl) →
    (∃ zs, hpB tos id flags part proto f0 f1 f2 f3 t0 t1 t2 t3 opts body (ttl - n) zs ∧ (n = 0 ∨ (n : Int) < ttl) ∧ EvXL Try.prog 0 (loopAt Try.prog 18 9) ((hpG tos id flags part ttl proto f0 f1 f2 f3 t0 t1 t2 t3 opts body n ys i).st 0) (.exit 0) ((hpE tos id flags part ttl proto f0 f1 f2 f3 t0 t1 t2 t3 opts body n zs).st 0)) ∨ EvXL Try.prog 0 (loopAt Try.prog 18 9) ((hpG tos id flags part ttl proto f0 f1 f2 f3 t0 t1 t2 t3 opts body n ys i).st 0) .ret (hpN.st 0)
  | 0, i, ys, hk, h, hi => by
    obtain rfl : i = n := by omega
    refine .inl ⟨ys, h, hi, EvXL.last (stepXS_ok k6s_ok (hp_end tos id flags part ttl proto f0 f1 f2 f3 t0 t1 t2 t3 opts body i ys i) ?_) (by simp)⟩
    repeat' (first | with_reducible exact allNil | with_reducible refine allCons ?_ ?_ | with_reducible refine allRp _ ?_ ?_)
    all_goals first | (with_reducible rfl) | exact decide_eq_false (by omega) | exact rfl
  | k + 1, i, ys, hk, h, hi => by
    obtain ⟨g0, g1, g2, g3, g4, g5, g6, g7⟩ := g
    have g' : goodP tos id flags part (ttl - i) proto opts.length := ⟨g0, g1, g2, g3, by omega, g5, g6, g7⟩
    have F := hp_facts _ _ _ _ _ _ _ _ _ _ _ _ _ _ _ _ _ h g' hb
    obtain ⟨fl, fE, fA, fH, F4, F6, F1, f8, F9, fd⟩ := F
    by_cases ht : 1 < ttl - i
    · obtain ⟨us, zs, e1, e2, e3, e4⟩ := hp_next _ _ _ _ _ _ _ _ _ _ _ _ _ _ _ _ _ h g' ht
      have hs : EvX Try.prog 0 (loopAt Try.prog 18 9) ((hpG tos id flags part ttl proto f0 f1 f2 f3 t0 t1 t2 t3 opts body n ys i).st 0) .normal ((hpG tos id flags part ttl proto f0 f1 f2 f3 t0 t1 t2 t3 opts body n zs (i + 1)).st 0) := (stepXS_ok k6s_ok (hp_step tos id flags part ttl proto f0 f1 f2 f3 t0 t1 t2 t3 opts body n ys us zs i) (by
        have hzl : zs.length = ys.length := by rw [e4, List.length_set, List.length_set, e2]
        have hT : turnN ((ys.getD 10 0).toNat * 256 + (ys.getD 11 0).toNat) (pairN ys 8) (pairN us 8) ≤ 65535 := by unfold turnN; omega
        simp only [fE, fA, List.take_length, pair_raw, sumPair, f8]
        repeat' (first | with_reducible exact allNil | with_reducible refine allCons ?_ ?_ | with_reducible refine allRp _ ?_ ?_)
        all_goals first | (with_reducible rfl) | exact decide_eq_true (by omega) | exact decide_eq_false (by omega) | omega | (rw [e2]; omega) | (rw [List.length_set, e2]; omega) | exact True.intro | (simp only [wu8, lo8_raw]; exact e1) | (simp only [wu8, lo8_raw, fd256]; exact e4.symm) | exact isB _ | (simp [isByteAV, wu8]; omega) | (rw [hzl]; simp) | (rw [w64 _ (by omega)]; simp [decide_eq_true ht]; done) | (simp [hI, w64, hzl]; omega) | (congr 2; rw [w64 _ (by omega)]; omega) | exact rfl))
      have e3' : hpB tos id flags part proto f0 f1 f2 f3 t0 t1 t2 t3 opts body (ttl - (i + 1 : Nat)) zs := by
        have : ttl - (i + 1 : Nat) = ttl - i - 1 := by omega
        rw [this]; exact e3
      rcases hp_loop n tos id flags part ttl proto f0 f1 f2 f3 t0 t1 t2 t3 opts body hn ⟨g0, g1, g2, g3, g4, g5, g6, g7⟩ hb hl k (i + 1) zs (by omega) e3' (by omega) with ⟨ws, w1, w2, w3⟩ | w
      · exact .inl ⟨ws, w1, w2, EvXL.step hs w3⟩
      · exact .inr (EvXL.step hs w)
    · refine .inr (EvXL.last (stepXS_ok k6s_ok (hp_deny tos id flags part ttl proto f0 f1 f2 f3 t0 t1 t2 t3 opts body n ys i) ?_) (by simp))
      simp only [fE, fA, List.take_length, pair_raw, sumPair, f8]
      repeat' (first | with_reducible exact allNil | with_reducible refine allCons ?_ ?_ | with_reducible refine allRp _ ?_ ?_)
      all_goals first | (with_reducible rfl) | exact decide_eq_true (by omega) | exact decide_eq_false (by omega) | exact True.intro | omega | (rw [w64 _ (by omega)]; simp [decide_eq_false ht]; done) | (rw [w64 _ (by omega)]; simp; omega) | exact rfl

set_option maxHeartbeats 4000000 in
set_option maxRecDepth 100000 in
theorem walk (tos id flags part ttl proto f0 f1 f2 f3 t0 t1 t2 t3 : Int) (opts body : List UInt8) (n : Int) (hb : (0 ≤ f0 ∧ f0 < 256) ∧ (0 ≤ f1 ∧ f1 < 256) ∧ (0 ≤ f2 ∧ f2 < 256) ∧ (0 ≤ f3 ∧ f3 < 256) ∧ (0 ≤ t0 ∧ t0 < 256) ∧ (0 ≤ t1 ∧ t1 < 256) ∧ (0 ≤ t2 ∧ t2 < 256) ∧ (0 ≤ t3 ∧ t3 < 256)) :
    ∃ L' nx', ACall Try.prog 18 [.agg [.val (.int .i64 tos), .val (.int .i64 id), .val (.int .i64 flags), .val (.int .i64 part), .val (.int .i64 ttl), .val (.int .i64 proto), .val (.int .u8 f0), .val (.int .u8 f1), .val (.int .u8 f2), .val (.int .u8 f3), .val (.int .u8 t0), .val (.int .u8 t1), .val (.int .u8 t2), .val (.int .u8 t3), .bytes opts, .bytes body], .val (.int .i64 n)] [] 0 (.val (.bool true)) L' nx' := by
  obtain ⟨bf0, bf1, bf2, bf3, bt0, bt1, bt2, bt3⟩ := hb
  by_cases h1 : 1600 < body.length
  · refine ⟨_, _, (outXS_ok k6s_ok (hp_big1 tos id flags part ttl proto f0 f1 f2 f3 t0 t1 t2 t3 opts body n) ?_)⟩
    repeat' (first | exact allNil | refine allCons ?_ ?_)
    all_goals first | exact True.intro | (with_reducible exact id) | (intros; with_reducible assumption) | omega | (simp; done) | (simp; omega) | (simp (disch := first | omega | (simp; omega)) [str_toList, wu8, isB, lo8_raw, fd256, fd65536, fd16777216, w64, sameO_iff, lo8_mod, lo8_mod2, div_div, and_u32_65535, take_len]; done) | (simp (disch := first | omega | (simp; omega)) [str_toList, wu8, isB, lo8_raw, fd256, fd65536, fd16777216, w64, sameO_iff, lo8_mod, lo8_mod2, div_div, and_u32_65535, take_len]; omega)
  by_cases h2 : 100 < opts.length
  · refine ⟨_, _, (outXS_ok k6s_ok (hp_big2 tos id flags part ttl proto f0 f1 f2 f3 t0 t1 t2 t3 opts body n) ?_)⟩
    repeat' (first | exact allNil | refine allCons ?_ ?_)
    all_goals first | exact True.intro | (with_reducible exact id) | (intros; with_reducible assumption) | omega | (simp; done) | (simp; omega) | (simp (disch := first | omega | (simp; omega)) [str_toList, wu8, isB, lo8_raw, fd256, fd65536, fd16777216, w64, sameO_iff, lo8_mod, lo8_mod2, div_div, and_u32_65535, take_len]; done) | (simp (disch := first | omega | (simp; omega)) [str_toList, wu8, isB, lo8_raw, fd256, fd65536, fd16777216, w64, sameO_iff, lo8_mod, lo8_mod2, div_div, and_u32_65535, take_len]; omega)
  by_cases h3 : n < 0
  · refine ⟨_, _, (outXS_ok k6s_ok (hp_neg tos id flags part ttl proto f0 f1 f2 f3 t0 t1 t2 t3 opts body n) ?_)⟩
    repeat' (first | exact allNil | refine allCons ?_ ?_)
    all_goals first | exact True.intro | (with_reducible exact id) | (intros; with_reducible assumption) | omega | (simp; done) | (simp; omega) | (simp (disch := first | omega | (simp; omega)) [str_toList, wu8, isB, lo8_raw, fd256, fd65536, fd16777216, w64, sameO_iff, lo8_mod, lo8_mod2, div_div, and_u32_65535, take_len]; done) | (simp (disch := first | omega | (simp; omega)) [str_toList, wu8, isB, lo8_raw, fd256, fd65536, fd16777216, w64, sameO_iff, lo8_mod, lo8_mod2, div_div, and_u32_65535, take_len]; omega)
  by_cases h3b : 300 < n
  · refine ⟨_, _, (outXS_ok k6s_ok (hp_many tos id flags part ttl proto f0 f1 f2 f3 t0 t1 t2 t3 opts body n) ?_)⟩
    repeat' (first | exact allNil | refine allCons ?_ ?_)
    all_goals first | exact True.intro | (with_reducible exact id) | (intros; with_reducible assumption) | omega | (simp; done) | (simp; omega) | (simp (disch := first | omega | (simp; omega)) [str_toList, wu8, isB, lo8_raw, fd256, fd65536, fd16777216, w64, sameO_iff, lo8_mod, lo8_mod2, div_div, and_u32_65535, take_len]; done) | (simp (disch := first | omega | (simp; omega)) [str_toList, wu8, isB, lo8_raw, fd256, fd65536, fd16777216, w64, sameO_iff, lo8_mod, lo8_mod2, div_div, and_u32_65535, take_len]; omega)
  cases hg : goodB tos id flags part ttl proto opts.length
  case false =>
    refine ⟨_, _, (outXS_ok k6s_ok (hp_arg tos id flags part ttl proto f0 f1 f2 f3 t0 t1 t2 t3 opts body n) ?_)⟩
    repeat' (first | exact allNil | refine allCons ?_ ?_)
    all_goals first | exact True.intro | (with_reducible exact id) | (intros; with_reducible assumption) | omega | (simp; done) | (simp; omega) | (simp (disch := first | omega | (simp; omega)) [str_toList, wu8, isB, lo8_raw, fd256, fd65536, fd16777216, w64, sameO_iff, lo8_mod, lo8_mod2, div_div, and_u32_65535, take_len, hg]; done) | (simp (disch := first | omega | (simp; omega)) [str_toList, wu8, isB, lo8_raw, fd256, fd65536, fd16777216, w64, sameO_iff, lo8_mod, lo8_mod2, div_div, and_u32_65535, take_len, hg]; omega)
  have hgp : goodP tos id flags part ttl proto opts.length := of_decide_eq_true hg
  obtain ⟨g0, g1, g2, g3, g4, g5, g6, g7⟩ := hgp
  by_cases h4 : 1480 - opts.length < body.length
  · refine ⟨_, _, (outXS_ok k6s_ok (hp_limit tos id flags part ttl proto f0 f1 f2 f3 t0 t1 t2 t3 opts body n) ?_)⟩
    repeat' (first | exact allNil | refine allCons ?_ ?_)
    all_goals first | exact True.intro | (with_reducible exact id) | (intros; with_reducible assumption) | omega | (simp; done) | (simp; omega) | (simp (disch := first | omega | (simp; omega)) [str_toList, wu8, isB, lo8_raw, fd256, fd65536, fd16777216, w64, sameO_iff, lo8_mod, lo8_mod2, div_div, and_u32_65535, take_len, hg]; done) | (simp (disch := first | omega | (simp; omega)) [str_toList, wu8, isB, lo8_raw, fd256, fd65536, fd16777216, w64, sameO_iff, lo8_mod, lo8_mod2, div_div, and_u32_65535, take_len, hg]; omega)
  obtain ⟨ys, hys⟩ : ∃ ys, ys = ipH tos id flags part ttl proto f0 f1 f2 f3 t0 t1 t2 t3 opts (20 + (opts.length : Int) + (body.length : Int)) (lo8 ((ofL (ipH tos id flags part ttl proto f0 f1 f2 f3 t0 t1 t2 t3 opts (20 + (opts.length : Int) + (body.length : Int)) 0 0) : Nat) / 256)) (lo8 (ofL (ipH tos id flags part ttl proto f0 f1 f2 f3 t0 t1 t2 t3 opts (20 + (opts.length : Int) + (body.length : Int)) 0 0) : Nat)) ++ body := ⟨_, rfl⟩
  have vr := version_raw opts g6
  have pr := part_raw flags part g2 g3
  have hl : ys.length = 20 + opts.length + body.length := by rw [hys, List.length_append, ipH_len]
  have ht : List.take (20 + opts.length + body.length) ys = ys := List.take_of_length_le (by omega)
  obtain ⟨m, rfl⟩ : ∃ m : Nat, n = m := ⟨n.toNat, by omega⟩
  have hy : hpB tos id flags part proto f0 f1 f2 f3 t0 t1 t2 t3 opts body (ttl - (0 : Nat)) ys := ⟨_, _, by rw [hys, show ttl - ((0 : Nat) : Int) = ttl from by omega], by rw [show ttl - ((0 : Nat) : Int) = ttl from by omega]; exact ipH_sum _ _ _ _ _ _ _ _ _ _ _ _ _ _ _ _ _ _ (put_sum _ (ofL_le _))⟩
  rcases hp_loop m tos id flags part ttl proto f0 f1 f2 f3 t0 t1 t2 t3 opts body (by omega) ⟨g0, g1, g2, g3, g4, g5, g6, g7⟩ (by omega) (by omega) m 0 ys (by omega) hy (.inl rfl) with ⟨zs, z1, z2, z3⟩ | w
  case inr =>
    refine ⟨_, _, (outXS_ok k6s_ok (hp_ret tos id flags part ttl proto f0 f1 f2 f3 t0 t1 t2 t3 opts body m ys) ?_)⟩
    repeat' (first | exact allNil | refine allCons ?_ ?_)
    all_goals first | exact True.intro | (with_reducible exact id) | (intros; with_reducible assumption) | omega | (refine Eq.trans ?_ hys.symm; simp only [vr, pr]; simp (disch := first | omega | (simp; omega)) [wu8, lo8_raw, fd256, w64, take_len, ipH]; done) | exact w | (simp [hI]; done) | (simp; done) | (simp; omega) | (simp (disch := first | omega | (simp; omega)) [str_toList, wu8, isB, lo8_raw, fd256, fd65536, fd16777216, w64, sameO_iff, lo8_mod, lo8_mod2, div_div, and_u32_65535, take_len, hg, hl, ht]; done) | (simp (disch := first | omega | (simp; omega)) [str_toList, wu8, isB, lo8_raw, fd256, fd65536, fd16777216, w64, sameO_iff, lo8_mod, lo8_mod2, div_div, and_u32_65535, take_len, hg, hl, ht]; omega)
  have g' : goodP tos id flags part (ttl - m) proto opts.length := ⟨g0, g1, g2, g3, by omega, g5, g6, g7⟩
  have F := hp_facts _ _ _ _ _ _ _ _ _ _ _ _ _ _ _ _ _ z1 g' (by omega)
  obtain ⟨zl, zE, zA, zH, z4, z6, zt1, z8, z9, zd⟩ := F
  have zb := z1
  obtain ⟨sa, sb, hz2, -⟩ := zb
  have zf := four_d f0 f1 f2 f3 bf0 bf1 bf2 bf3 (at32 zs 12) (by rw [hz2]; exact ipH_from _ _ _ _ _ _ _ _ _ _ _ _ _ _ _ _ _ _ _)
  have zto := four_d t0 t1 t2 t3 bt0 bt1 bt2 bt3 (at32 zs 16) (by rw [hz2]; exact ipH_to _ _ _ _ _ _ _ _ _ _ _ _ _ _ _ _ _ _ _)
  obtain ⟨zf0, zf1, zf2, zf3⟩ := zf
  obtain ⟨zt0, zt1', zt2, zt3⟩ := zto
  obtain ⟨h, hh⟩ : ∃ h, h = 20 + opts.length := ⟨_, rfl⟩
  rw [← hh] at zH
  have hz : Int.toNat ((h : Int) - 20) = h - 20 := by omega
  have e1 : List.take (h - 20) (List.drop 20 zs) = opts := by
    rw [zd, hh, show 20 + opts.length - 20 = opts.length from by omega]; simp
  have e2 : 20 + (h - 20) = h := by omega
  have e3 : List.drop h zs = body := by
    rw [hh, ← List.drop_drop, zd]; simp
  have px : (flags * 8192 + part) / 8192 = flags := by omega
  have py : (flags * 8192 + part) % 8192 = part := by omega
  have y1 : ((at8 zs 1 : Nat) : Int) = tos := by have := at8_take zs zs.length 1 (by omega); rw [List.take_length] at this; rw [this]; exact zt1
  have y8 : ((at8 zs 8 : Nat) : Int) = ttl - m := by have := at8_take zs zs.length 8 (by omega); rw [List.take_length] at this; rw [this]; exact z8
  have y9 : ((at8 zs 9 : Nat) : Int) = proto := by have := at8_take zs zs.length 9 (by omega); rw [List.take_length] at this; rw [this]; exact z9
  refine ⟨_, _, (outXS_ok k6s_ok (hp_out tos id flags part ttl proto f0 f1 f2 f3 t0 t1 t2 t3 opts body m ys zs) ?_).truly ?_⟩
  · repeat' (first | exact allNil | refine allCons ?_ ?_)
    all_goals ((try simp only [zE, zA, zH, List.take_length]) <;> (first | exact True.intro | (with_reducible exact id) | (intros; with_reducible assumption) | omega | (refine Eq.trans ?_ hys.symm; simp only [vr, pr]; simp (disch := first | omega | (simp; omega)) [wu8, lo8_raw, fd256, w64, take_len, ipH]; done) | exact z3 | (simp [hI]; done) | (simp; done) | (simp; omega) | (simp (disch := first | omega | (simp; omega)) [str_toList, wu8, isB, lo8_raw, fd256, fd65536, fd16777216, w64, sameO_iff, lo8_mod, lo8_mod2, div_div, and_u32_65535, take_len, hg, hl, ht, zl, e1, e2, e3, hz, and_8191, fd8192, px, py, z4, z6, y1, y8, y9, zf0, zf1, zf2, zf3, zt0, zt1', zt2, zt3]; done) | (simp (disch := first | omega | (simp; omega)) [str_toList, wu8, isB, lo8_raw, fd256, fd65536, fd16777216, w64, sameO_iff, lo8_mod, lo8_mod2, div_div, and_u32_65535, take_len, hg, hl, ht, zl, e1, e2, e3, hz, and_8191, fd8192, px, py, z4, z6, y1, y8, y9, zf0, zf1, zf2, zf3, zt0, zt1', zt2, zt3]; omega)))
  · simp only [zE, zA, zH, List.take_length]; simp (disch := first | omega | (simp; omega)) [str_toList, wu8, isB, lo8_raw, fd256, fd65536, fd16777216, w64, sameO_iff, lo8_mod, lo8_mod2, div_div, and_u32_65535, take_len, hg, hl, ht, zl, e1, e2, e3, hz, and_8191, fd8192, px, py, z4, z6, y1, y8, y9, zf0, zf1, zf2, zf3, zt0, zt1', zt2, zt3]
end Go.Proofs.Ytoekncmggjhmjaa.ip4Hops
