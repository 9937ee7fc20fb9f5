/- Several texts in one: InC, InLaw. -/
import Derived.Test.YtoekncmggjhmjaaInA
import Derived.Test.YtoekncmggjhmjaaInB

/- What IcmpNone answers of an error that was built. -/
namespace Go.Proofs.Ytoekncmggjhmjaa.icmpNone
open Go.RowKit
open icmpWrites
set_option linter.unusedSimpArgs false
set_option linter.unusedVariables false

set_option maxHeartbeats 40000000 in
set_option maxRecDepth 100000 in
theorem w_ok (a0 a1 a2 a3 : Int) (tos id flags part ttl proto f0 f1 f2 f3 t0 t1 t2 t3 : Int) (opts body : List UInt8) (typ : Int) (ha : (0 ≤ a0 ∧ a0 < 256) ∧ (0 ≤ a1 ∧ a1 < 256) ∧ (0 ≤ a2 ∧ a2 < 256) ∧ (0 ≤ a3 ∧ a3 < 256)) (hb : (0 ≤ f0 ∧ f0 < 256) ∧ (0 ≤ f1 ∧ f1 < 256) ∧ (0 ≤ f2 ∧ f2 < 256) ∧ (0 ≤ f3 ∧ f3 < 256) ∧ (0 ≤ t0 ∧ t0 < 256) ∧ (0 ≤ t1 ∧ t1 < 256) ∧ (0 ≤ t2 ∧ t2 < 256) ∧ (0 ≤ t3 ∧ t3 < 256)) (h1 : ¬1400 < body.length) (h2 : ¬40 < opts.length) (h3 : typ = 3 ∨ typ = 11 ∨ typ = 12) (hg : goodB tos id flags part ttl proto opts.length = true) (hA : (bif bif decide (part > (0 : Int)) then true else !bif !(f0 == (0 : Int) && (f1 == (0 : Int) && (f2 == (0 : Int) && (f3 == (0 : Int) && true)))) then decide (f0 ≤ (223 : Int)) else false then true else !bif !(t0 == (0 : Int) && (t1 == (0 : Int) && (t2 == (0 : Int) && (t3 == (0 : Int) && true)))) then decide (t0 ≤ (223 : Int)) else false) = false) (hB : (bif proto != (1 : Int) then true else bif decide ((↑(0 + body.length) : Int) ≥ (8 : Int)) then bif ((List.getD body 0 0).toNat : Int) == (0 : Int) then true else ((List.getD body 0 0).toNat : Int) == (8 : Int) else false) = true) (hC : (bif bif decide ((0 : Int) > (0 : Int)) then true else !bif !(a0 == (0 : Int) && (a1 == (0 : Int) && (a2 == (0 : Int) && (a3 == (0 : Int) && true)))) then decide (a0 ≤ (223 : Int)) else false then true else !bif !(f0 == (0 : Int) && (f1 == (0 : Int) && (f2 == (0 : Int) && (f3 == (0 : Int) && true)))) then decide (f0 ≤ (223 : Int)) else false) = false) :
    ∃ L' nx', ACall Try.prog 24 [.agg [.val (.int .u8 a0), .val (.int .u8 a1), .val (.int .u8 a2), .val (.int .u8 a3)], .agg [.val (.int .i64 tos), .val (.int .i64 id), .val (.int .i64 flags), .val (.int .i64 part), .val (.int .i64 ttl), .val (.int .i64 proto), .val (.int .u8 f0), .val (.int .u8 f1), .val (.int .u8 f2), .val (.int .u8 f3), .val (.int .u8 t0), .val (.int .u8 t1), .val (.int .u8 t2), .val (.int .u8 t3), .bytes opts, .bytes body], .val (.int .i64 typ)] [] 0 (.val (.bool true)) L' nx' := by
  obtain ⟨bf0, bf1, bf2, bf3, bt0, bt1, bt2, bt3⟩ := hb
  obtain ⟨ba0, ba1, ba2, ba3⟩ := ha
  have hty : (bif bif decide ((↑(List.length body) : Int) > (1400 : Int)) then true else decide ((↑(List.length opts) : Int) > (40 : Int)) then true else bif bif typ != (3 : Int) then typ != (11 : Int) else false then typ != (12 : Int) else false) = false := by
    rw [decide_eq_false (p := ((List.length body : Nat) : Int) > (1400 : Int)) (by omega), decide_eq_false (p := ((List.length opts : Nat) : Int) > (40 : Int)) (by omega)]; rcases h3 with rfl | rfl | rfl <;> rfl
  have hgp : goodP tos id flags part ttl proto opts.length := of_decide_eq_true hg
  obtain ⟨g0, g1, g2, g3, g4, g5, g6, g7⟩ := hgp
  obtain ⟨ys, hys⟩ : ∃ ys, ys = ipH tos id flags part ttl proto f0 f1 f2 f3 t0 t1 t2 t3 opts (20 + (opts.length : Int) + (body.length : Int)) (lo8 ((ofL (ipH tos id flags part ttl proto f0 f1 f2 f3 t0 t1 t2 t3 opts (20 + (opts.length : Int) + (body.length : Int)) 0 0) : Nat) / 256)) (lo8 (ofL (ipH tos id flags part ttl proto f0 f1 f2 f3 t0 t1 t2 t3 opts (20 + (opts.length : Int) + (body.length : Int)) 0 0) : Nat)) ++ body := ⟨_, rfl⟩
  have vr := version_raw opts g6
  have pr := part_raw flags part g2 g3
  have hl : ys.length = 20 + opts.length + body.length := by rw [hys, List.length_append, ipH_len]
  have ht : List.take (20 + opts.length + body.length) ys = ys := List.take_of_length_le (by omega)
  have hyB : hpB tos id flags part proto f0 f1 f2 f3 t0 t1 t2 t3 opts body ttl ys := ⟨_, _, hys, ipH_sum _ _ _ _ _ _ _ _ _ _ _ _ _ _ _ _ _ _ (put_sum _ (ofL_le _))⟩
  have F := hp_facts _ _ _ _ _ _ _ _ _ _ _ _ _ _ _ _ _ hyB ⟨g0, g1, g2, g3, g4, g5, g6, g7⟩ (by omega)
  obtain ⟨yl, yE, yA, yH, y4, y6, yt1, y8, yt9, yd⟩ := F
  rw [yl] at yE yA yH
  obtain ⟨h, hh⟩ : ∃ h, h = 20 + opts.length := ⟨_, rfl⟩
  obtain ⟨m, hm⟩ : ∃ m, m = body.length := ⟨_, rfl⟩
  obtain ⟨n, hn⟩ : ∃ n, n = 20 + opts.length + body.length := ⟨_, rfl⟩
  have yh : hdr ys = h := by rw [hys, hh]; exact ipH_hdr _ _ _ _ _ _ _ _ _ _ _ _ _ _ _ _ _ _ _ g6 g7
  have ph : IntKind.wrap IntKind.i64 (IntKind.wrap IntKind.i64 (bits BinOp.and IntKind.u8 (↑(UInt8.toNat (List.getD ys (0 : Nat) (0 : UInt8))) : Int) (15 : Int)) * (4 : Int)) = (h : Int) := by rw [← yh]; exact head_raw _
  have yA : sizesA ys (20 + opts.length + body.length) = n := yA.trans hn.symm
  have yH : sizesH ys (20 + opts.length + body.length) = h := yH.trans hh.symm
  have yT : List.take n ys = ys := List.take_of_length_le (by omega)
  have zf := four_d f0 f1 f2 f3 bf0 bf1 bf2 bf3 (at32 ys 12) (by rw [hys]; exact ipH_from _ _ _ _ _ _ _ _ _ _ _ _ _ _ _ _ _ _ _)
  have zto := four_d t0 t1 t2 t3 bt0 bt1 bt2 bt3 (at32 ys 16) (by rw [hys]; exact ipH_to _ _ _ _ _ _ _ _ _ _ _ _ _ _ _ _ _ _ _)
  obtain ⟨zf0, zf1, zf2, zf3⟩ := zf
  obtain ⟨zt0, zt1, zt2, zt3⟩ := zto
  have hW : IntKind.wrap IntKind.i64 ((h : Int) - (20 : Int)) = ((h - 20 : Nat) : Int) := by rw [w64 _ (by omega)]; omega
  have hBL : 0 + n - 1 - 1 - 2 - 2 - 2 - 1 - 1 - 2 - 4 - 4 - (h - 20) = m := by omega
  have eB : List.take m (List.drop (20 + (h - 20)) ys) = body := by
    rw [show 20 + (h - 20) = 20 + opts.length from by omega, ← List.drop_drop, yd, hm]; simp
  have px : bits BinOp.and IntKind.i64 (↑(at16 ys (6 : Nat)) : Int) (8191 : Int) = part := by rw [y6, and_8191]; omega
  have y9 : ((at8 ys 9 : Nat) : Int) = proto := by have := at8_take ys ys.length 9 (by omega); rw [List.take_length] at this; rw [this]; exact yt9
  obtain ⟨p0, hp0⟩ : ∃ p0 : Int, p0 = ((List.getD body 0 0).toNat : Int) := ⟨_, rfl⟩
  have F0 : IntKind.wrap IntKind.u8 (Int.fdiv (↑(at32 ys (12 : Nat)) : Int) (16777216 : Int)) = f0 := by rw [wu8, fd16777216]; exact zf0
  have F1 : IntKind.wrap IntKind.u8 (Int.fdiv (↑(at32 ys (12 : Nat)) : Int) (65536 : Int)) = f1 := by rw [wu8, fd65536]; exact zf1
  have F2 : IntKind.wrap IntKind.u8 (Int.fdiv (↑(at32 ys (12 : Nat)) : Int) (256 : Int)) = f2 := by rw [wu8, fd256]; exact zf2
  have F3 : IntKind.wrap IntKind.u8 (↑(at32 ys (12 : Nat)) : Int) = f3 := by rw [wu8]; exact zf3
  have T0 : IntKind.wrap IntKind.u8 (Int.fdiv (↑(at32 ys (16 : Nat)) : Int) (16777216 : Int)) = t0 := by rw [wu8, fd16777216]; exact zt0
  have T1 : IntKind.wrap IntKind.u8 (Int.fdiv (↑(at32 ys (16 : Nat)) : Int) (65536 : Int)) = t1 := by rw [wu8, fd65536]; exact zt1
  have T2 : IntKind.wrap IntKind.u8 (Int.fdiv (↑(at32 ys (16 : Nat)) : Int) (256 : Int)) = t2 := by rw [wu8, fd256]; exact zt2
  have T3 : IntKind.wrap IntKind.u8 (↑(at32 ys (16 : Nat)) : Int) = t3 := by rw [wu8]; exact zt3
  rw [← hm, ← hp0] at hB
  have hB2 : (!(bif proto != (1 : Int) then true else bif decide ((↑(0 + m) : Int) ≥ (8 : Int)) then bif p0 == (0 : Int) then true else p0 == (8 : Int) else false)) = false := by rw [hB]; rfl
  obtain ⟨M, hM⟩ : ∃ M, M = h + min m 8 := ⟨_, rfl⟩
  have w1 : IntKind.wrap IntKind.i64 ((h : Int) + (if (8 : Int) < (↑(0 + m) : Int) then (8 : Int) else (↑(0 + m) : Int))) = (M : Int) := by
    split <;> (rw [w64 _ (by omega)]; omega)
  have tl : (List.take M ys).length = M := by rw [List.length_take]; omega
  obtain ⟨zs, hzs⟩ : ∃ zs, zs = icmpB typ 0 0 (List.take M ys) := ⟨_, rfl⟩
  have zl : zs.length = 8 + M := by rw [hzs, icmpB_len, tl]
  have zT : List.take (8 + M) zs = zs := List.take_of_length_le (by omega)
  have zF : ofL zs = 0 := by rw [hzs]; exact icmpB_fits _ _ _ _
  have zd : List.drop 8 zs = List.take M ys := by rw [hzs]; rfl
  have z0 : ((List.getD zs 0 0).toNat : Int) = typ := by
    rw [hzs]
    show ((lo8 typ).toNat : Int) = typ
    rw [lo8_toNat]; omega
  obtain ⟨cs, hcs⟩ : ∃ cs, cs = ipH 0 0 0 0 64 1 a0 a1 a2 a3 f0 f1 f2 f3 [] (20 + (([] : List UInt8).length : Int) + (zs.length : Int)) (lo8 ((ofL (ipH 0 0 0 0 64 1 a0 a1 a2 a3 f0 f1 f2 f3 [] (20 + (([] : List UInt8).length : Int) + (zs.length : Int)) 0 0) : Nat) / 256)) (lo8 (ofL (ipH 0 0 0 0 64 1 a0 a1 a2 a3 f0 f1 f2 f3 [] (20 + (([] : List UInt8).length : Int) + (zs.length : Int)) 0 0) : Nat)) ++ zs := ⟨_, rfl⟩
  have hcB : hpB 0 0 0 0 1 a0 a1 a2 a3 f0 f1 f2 f3 [] zs 64 cs := ⟨_, _, hcs, ipH_sum _ _ _ _ _ _ _ _ _ _ _ _ _ _ _ _ _ _ (put_sum _ (ofL_le _))⟩
  have FC := hp_facts _ _ _ _ _ _ _ _ _ _ _ _ _ _ _ _ _ hcB (by decide) (by omega)
  obtain ⟨cl, cE, cA, cH, c4, c6, ct1, c8, ct9, cd⟩ := FC
  have cl2 : cs.length = 20 + (8 + M) := by rw [cl, zl]; rfl
  rw [cl2] at cE cA cH
  have cT : List.take (20 + (8 + M)) cs = cs := List.take_of_length_le (by omega)
  have cf := four_d a0 a1 a2 a3 ba0 ba1 ba2 ba3 (at32 cs 12) (by rw [hcs]; exact ipH_from _ _ _ _ _ _ _ _ _ _ _ _ _ _ _ _ _ _ _)
  have cto := four_d f0 f1 f2 f3 bf0 bf1 bf2 bf3 (at32 cs 16) (by rw [hcs]; exact ipH_to _ _ _ _ _ _ _ _ _ _ _ _ _ _ _ _ _ _ _)
  obtain ⟨cf0, cf1, cf2, cf3⟩ := cf
  obtain ⟨ct0, ct1', ct2, ct3⟩ := cto
  have C0 : IntKind.wrap IntKind.u8 (Int.fdiv (↑(at32 cs (12 : Nat)) : Int) (16777216 : Int)) = a0 := by rw [wu8, fd16777216]; exact cf0
  have C1 : IntKind.wrap IntKind.u8 (Int.fdiv (↑(at32 cs (12 : Nat)) : Int) (65536 : Int)) = a1 := by rw [wu8, fd65536]; exact cf1
  have C2 : IntKind.wrap IntKind.u8 (Int.fdiv (↑(at32 cs (12 : Nat)) : Int) (256 : Int)) = a2 := by rw [wu8, fd256]; exact cf2
  have C3 : IntKind.wrap IntKind.u8 (↑(at32 cs (12 : Nat)) : Int) = a3 := by rw [wu8]; exact cf3
  have D0 : IntKind.wrap IntKind.u8 (Int.fdiv (↑(at32 cs (16 : Nat)) : Int) (16777216 : Int)) = f0 := by rw [wu8, fd16777216]; exact ct0
  have D1 : IntKind.wrap IntKind.u8 (Int.fdiv (↑(at32 cs (16 : Nat)) : Int) (65536 : Int)) = f1 := by rw [wu8, fd65536]; exact ct1'
  have D2 : IntKind.wrap IntKind.u8 (Int.fdiv (↑(at32 cs (16 : Nat)) : Int) (256 : Int)) = f2 := by rw [wu8, fd256]; exact ct2
  have D3 : IntKind.wrap IntKind.u8 (↑(at32 cs (16 : Nat)) : Int) = f3 := by rw [wu8]; exact ct3
  have ty : 3 ≤ typ ∧ typ ≤ 12 := by omega
  have ty0 : (typ == (0 : Int)) = false := by rw [beq_eq_false_iff_ne]; omega
  have ty8 : (typ == (8 : Int)) = false := by rw [beq_eq_false_iff_ne]; omega
  have hT : (bif !bif decide (typ ≥ (0 : Int)) then decide (typ ≤ (255 : Int)) else false then true else false) = false := by rw [decide_eq_true (p := typ ≥ (0 : Int)) (by omega), decide_eq_true (p := typ ≤ (255 : Int)) (by omega)]; rfl
  clear h3
  have m1 : h ≤ M ∧ M ≤ h + 8 ∧ M ≤ h + m := by omega
  clear hM
  have hE : (!bif (1 : Int) != (1 : Int) then true else bif decide ((↑(0 + (8 + M)) : Int) ≥ (8 : Int)) then bif typ == (0 : Int) then true else typ == (8 : Int) else false) = true := by rw [ty0, ty8, decide_eq_true (p := (↑(0 + (8 + M)) : Int) ≥ (8 : Int)) (by omega)]; rfl
  have qx : bits BinOp.and IntKind.i64 (↑(at16 cs (6 : Nat)) : Int) (8191 : Int) = 0 := by rw [c6]; rfl
  have c9 : ((at8 cs 9 : Nat) : Int) = 1 := by have := at8_take cs cs.length 9 (by omega); rw [List.take_length] at this; rw [this]; exact ct9
  have cW : IntKind.wrap IntKind.i64 (((20 + ([] : List UInt8).length : Nat) : Int) - (20 : Int)) = ((0 : Nat) : Int) := by decide
  have cBL : 0 + (20 + (8 + M)) - 1 - 1 - 2 - 2 - 2 - 1 - 1 - 2 - 4 - 4 - 0 = 8 + M := by omega
  have ceB : List.take (8 + M) (List.drop (20 + 0) cs) = zs := by
    rw [cd]; simp [zT]
  refine ⟨_, _, ((outS_ok k6s_ok (icmpNone_ok a0 a1 a2 a3 tos id flags part ttl proto f0 f1 f2 f3 t0 t1 t2 t3 opts body typ ys zs cs M) ?_).1).truly ?_⟩
  · repeat' (first | with_reducible exact allNil | with_reducible refine allCons ?_ ?_ | with_reducible refine allRp _ ?_ ?_)
    all_goals ((try simp only [yE, yA, yH, yT, ht, hW, Int.toNat_natCast, ph, hBL, eB, px, y9, F0, F1, F2, F3, T0, T1, T2, T3, ← hp0, cE, cA, cH, cT, C0, C1, C2, C3, D0, D1, D2, D3, qx, c9, cW, cBL, ceB, w1, zT, zF, z0]) <;> (first | exact True.intro | (with_reducible exact id) | (intros; with_reducible assumption) | (intro p q; rw [p, q]; rfl) | exact cimp | with_reducible exact hty | with_reducible exact hA | with_reducible exact hB | with_reducible exact hB2 | with_reducible exact hC | with_reducible exact hT | with_reducible exact hE | (refine decide_eq_false ?_; omega) | (refine decide_eq_true ?_; omega) | (with_reducible refine ⟨trivial, ?_⟩; omega) | with_reducible exact isBw _ | ((repeat' (first | with_reducible exact isBw _ | with_reducible exact byteN | with_reducible refine byteC ?_ ?_ | (refine (isB _).2 ?_; omega))); done) | (refine ⟨by omega, by omega, ?_⟩; (repeat' (first | with_reducible exact isBw _ | with_reducible exact byteN | with_reducible refine byteC ?_ ?_ | (refine (isB _).2 ?_; omega))); done) | (refine Eq.trans ?_ hys.symm; simp only [vr, pr]; simp (disch := first | omega | (simp; omega)) [wu8, lo8_raw, fd256, w64, take_len, ipH]; done) | (refine Eq.trans ?_ hzs.symm; simp (disch := first | omega | (simp; omega)) [wu8, lo8_raw, fd256, w64, take_len, icmpB, icmpH, icmpS, tl, show lo8 0 = 0 from rfl]; done) | (refine Eq.trans ?_ hcs.symm; simp (disch := first | omega | (simp; omega)) [wu8, lo8_raw, fd256, w64, take_len, ipH, zl, show lo8 0 = 0 from rfl, show lo8 69 = 69 from rfl, show lo8 64 = 64 from rfl, show lo8 1 = 1 from rfl]; done) | (intro h; rw [h]; rfl) | omega | (intro hq; simp at hq; omega) | (intro hq; simp [← hm] at hq ⊢; omega) | (simp; done) | (simp; omega) | (simp (disch := first | omega | (simp; omega)) [str_toList, wu8, isB, lo8_raw, fd256, fd65536, fd16777216, w64, sameO_iff, lo8_mod, lo8_mod2, div_div, and_u32_65535, take_len, hg, hl, ht, yl, zl, cl2, tl]; done) | (simp (disch := first | omega | (simp; omega)) [str_toList, wu8, isB, lo8_raw, fd256, fd65536, fd16777216, w64, sameO_iff, lo8_mod, lo8_mod2, div_div, and_u32_65535, take_len, hg, hl, ht, yl, zl, cl2, tl]; omega)))
  · simp only [zT, zd]; simp [take_len, tl]; rw [show 6 + M - 2 - 4 = M from by omega]; simp [List.take_take]

end Go.Proofs.Ytoekncmggjhmjaa.icmpNone

/- The law IcmpNone, walked: whatever is given, it answers true. -/
namespace Go.Proofs.Ytoekncmggjhmjaa.icmpNone
open Go.RowKit
open icmpWrites
set_option linter.unusedSimpArgs false
set_option linter.unusedVariables false

set_option maxHeartbeats 4000000 in
set_option maxRecDepth 100000 in
theorem walk (a0 a1 a2 a3 : Int) (tos id flags part ttl proto f0 f1 f2 f3 t0 t1 t2 t3 : Int) (opts body : List UInt8) (typ : Int) (ha : (0 ≤ a0 ∧ a0 < 256) ∧ (0 ≤ a1 ∧ a1 < 256) ∧ (0 ≤ a2 ∧ a2 < 256) ∧ (0 ≤ a3 ∧ a3 < 256)) (hb : (0 ≤ f0 ∧ f0 < 256) ∧ (0 ≤ f1 ∧ f1 < 256) ∧ (0 ≤ f2 ∧ f2 < 256) ∧ (0 ≤ f3 ∧ f3 < 256) ∧ (0 ≤ t0 ∧ t0 < 256) ∧ (0 ≤ t1 ∧ t1 < 256) ∧ (0 ≤ t2 ∧ t2 < 256) ∧ (0 ≤ t3 ∧ t3 < 256)) :
    ∃ L' nx', ACall Try.prog 24 [.agg [.val (.int .u8 a0), .val (.int .u8 a1), .val (.int .u8 a2), .val (.int .u8 a3)], .agg [.val (.int .i64 tos), .val (.int .i64 id), .val (.int .i64 flags), .val (.int .i64 part), .val (.int .i64 ttl), .val (.int .i64 proto), .val (.int .u8 f0), .val (.int .u8 f1), .val (.int .u8 f2), .val (.int .u8 f3), .val (.int .u8 t0), .val (.int .u8 t1), .val (.int .u8 t2), .val (.int .u8 t3), .bytes opts, .bytes body], .val (.int .i64 typ)] [] 0 (.val (.bool true)) L' nx' := by
  by_cases h1 : 1400 < body.length
  · refine ⟨_, _, (outT_ok k6s_ok (icmpNone_big1 a0 a1 a2 a3 tos id flags part ttl proto f0 f1 f2 f3 t0 t1 t2 t3 opts body typ) ?_).1⟩
    repeat' (first | with_reducible exact allNil | with_reducible refine allCons ?_ ?_ | with_reducible refine allRp _ ?_ ?_)
    all_goals first | exact True.intro | (with_reducible exact id) | (intros; with_reducible assumption) | omega | (intro p q; rw [p, q]; rfl) | exact cimp | (rw [decide_eq_true (p := ((List.length body : Nat) : Int) > (1400 : Int)) (by omega)]; rfl) | (simp; done) | (simp; omega) | (simp (disch := first | omega | (simp; omega)) [str_toList, wu8, isB, lo8_raw, fd256, fd65536, fd16777216, w64, sameO_iff, lo8_mod, lo8_mod2, div_div, and_u32_65535, take_len]; done) | (simp (disch := first | omega | (simp; omega)) [str_toList, wu8, isB, lo8_raw, fd256, fd65536, fd16777216, w64, sameO_iff, lo8_mod, lo8_mod2, div_div, and_u32_65535, take_len]; omega)
  by_cases h2 : 40 < opts.length
  · refine ⟨_, _, (outT_ok k6s_ok (icmpNone_big2 a0 a1 a2 a3 tos id flags part ttl proto f0 f1 f2 f3 t0 t1 t2 t3 opts body typ) ?_).1⟩
    repeat' (first | with_reducible exact allNil | with_reducible refine allCons ?_ ?_ | with_reducible refine allRp _ ?_ ?_)
    all_goals first | exact True.intro | (with_reducible exact id) | (intros; with_reducible assumption) | omega | (intro p q; rw [p, q]; rfl) | exact cimp | (rw [decide_eq_false (p := ((List.length body : Nat) : Int) > (1400 : Int)) (by omega), decide_eq_true (p := ((List.length opts : Nat) : Int) > (40 : Int)) (by omega)]; rfl) | (simp; done) | (simp; omega) | (simp (disch := first | omega | (simp; omega)) [str_toList, wu8, isB, lo8_raw, fd256, fd65536, fd16777216, w64, sameO_iff, lo8_mod, lo8_mod2, div_div, and_u32_65535, take_len]; done) | (simp (disch := first | omega | (simp; omega)) [str_toList, wu8, isB, lo8_raw, fd256, fd65536, fd16777216, w64, sameO_iff, lo8_mod, lo8_mod2, div_div, and_u32_65535, take_len]; omega)
  by_cases h3 : typ = 3 ∨ typ = 11 ∨ typ = 12
  case neg =>
    refine ⟨_, _, (outT_ok k6s_ok (icmpNone_typ a0 a1 a2 a3 tos id flags part ttl proto f0 f1 f2 f3 t0 t1 t2 t3 opts body typ) ?_).1⟩
    repeat' (first | with_reducible exact allNil | with_reducible refine allCons ?_ ?_ | with_reducible refine allRp _ ?_ ?_)
    all_goals first | exact True.intro | (with_reducible exact id) | (intros; with_reducible assumption) | omega | (intro p q; rw [p, q]; rfl) | exact cimp | (rw [decide_eq_false (p := ((List.length body : Nat) : Int) > (1400 : Int)) (by omega), decide_eq_false (p := ((List.length opts : Nat) : Int) > (40 : Int)) (by omega)]; simp; omega) | (simp; done) | (simp; omega) | (simp (disch := first | omega | (simp; omega)) [str_toList, wu8, isB, lo8_raw, fd256, fd65536, fd16777216, w64, sameO_iff, lo8_mod, lo8_mod2, div_div, and_u32_65535, take_len]; done) | (simp (disch := first | omega | (simp; omega)) [str_toList, wu8, isB, lo8_raw, fd256, fd65536, fd16777216, w64, sameO_iff, lo8_mod, lo8_mod2, div_div, and_u32_65535, take_len]; omega)
  have hty : (bif bif decide ((↑(List.length body) : Int) > (1400 : Int)) then true else decide ((↑(List.length opts) : Int) > (40 : Int)) then true else bif bif typ != (3 : Int) then typ != (11 : Int) else false then typ != (12 : Int) else false) = false := by
    rw [decide_eq_false (p := ((List.length body : Nat) : Int) > (1400 : Int)) (by omega), decide_eq_false (p := ((List.length opts : Nat) : Int) > (40 : Int)) (by omega)]; rcases h3 with rfl | rfl | rfl <;> rfl
  cases hg : goodB tos id flags part ttl proto opts.length
  case false =>
    refine ⟨_, _, (outT_ok k6s_ok (icmpNone_arg a0 a1 a2 a3 tos id flags part ttl proto f0 f1 f2 f3 t0 t1 t2 t3 opts body typ) ?_).1⟩
    repeat' (first | with_reducible exact allNil | with_reducible refine allCons ?_ ?_ | with_reducible refine allRp _ ?_ ?_)
    all_goals first | exact True.intro | (with_reducible exact id) | (intros; with_reducible assumption) | omega | (intro p q; rw [p, q]; rfl) | exact cimp | exact hty | (simp; done) | (simp; omega) | (simp (disch := first | omega | (simp; omega)) [str_toList, wu8, isB, lo8_raw, fd256, fd65536, fd16777216, w64, sameO_iff, lo8_mod, lo8_mod2, div_div, and_u32_65535, take_len, hg]; done) | (simp (disch := first | omega | (simp; omega)) [str_toList, wu8, isB, lo8_raw, fd256, fd65536, fd16777216, w64, sameO_iff, lo8_mod, lo8_mod2, div_div, and_u32_65535, take_len, hg]; omega)
  cases hA : (bif bif decide (part > (0 : Int)) then true else !bif !(f0 == (0 : Int) && (f1 == (0 : Int) && (f2 == (0 : Int) && (f3 == (0 : Int) && true)))) then decide (f0 ≤ (223 : Int)) else false then true else !bif !(t0 == (0 : Int) && (t1 == (0 : Int) && (t2 == (0 : Int) && (t3 == (0 : Int) && true)))) then decide (t0 ≤ (223 : Int)) else false)
  case true => exact w_deny _ _ _ _ _ _ _ _ _ _ _ _ _ _ _ _ _ _ _ _ _ ha hb h1 h2 h3 hg hA
  cases hB : (bif proto != (1 : Int) then true else bif decide ((↑(0 + body.length) : Int) ≥ (8 : Int)) then bif ((List.getD body 0 0).toNat : Int) == (0 : Int) then true else ((List.getD body 0 0).toNat : Int) == (8 : Int) else false)
  case false => exact w_deny2 _ _ _ _ _ _ _ _ _ _ _ _ _ _ _ _ _ _ _ _ _ ha hb h1 h2 h3 hg hA hB
  cases hC : (bif bif decide ((0 : Int) > (0 : Int)) then true else !bif !(a0 == (0 : Int) && (a1 == (0 : Int) && (a2 == (0 : Int) && (a3 == (0 : Int) && true)))) then decide (a0 ≤ (223 : Int)) else false then true else !bif !(f0 == (0 : Int) && (f1 == (0 : Int) && (f2 == (0 : Int) && (f3 == (0 : Int) && true)))) then decide (f0 ≤ (223 : Int)) else false)
  case true => exact w_okd _ _ _ _ _ _ _ _ _ _ _ _ _ _ _ _ _ _ _ _ _ ha hb h1 h2 h3 hg hA hB hC
  exact w_ok _ _ _ _ _ _ _ _ _ _ _ _ _ _ _ _ _ _ _ _ _ ha hb h1 h2 h3 hg hA hB hC
end Go.Proofs.Ytoekncmggjhmjaa.icmpNone
