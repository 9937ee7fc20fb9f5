/- The law NatStatics, walked: whatever is given, it answers true. -/
import Derived.Test.YtecmagdefllihaaNtRun
import Derived.Test.YtecmagdefllihaaUk
namespace Go.Proofs.Ytecmagdefllihaa.natStatics
open Go.RowKit
set_option linter.unusedSimpArgs false

theorem bne_ne {a b : Int} (h : (a != b) = true) : a ≠ b := by simpa using h
theorem bne_eq {a b : Int} (h : (a != b) = false) : a = b := by simpa using h
theorem notd_false {p : Prop} [Decidable p] (h : (!decide p) = false) : p := by simpa using h
theorem notd_true {p : Prop} [Decidable p] (h : (!decide p) = true) : ¬ p := by simpa using h

set_option maxHeartbeats 40000000 in
set_option maxRecDepth 100000 in
theorem walk (out inn : Int) (a0 a1 a2 a3 : Int) (port kind : Int) (hb : (0 ≤ a0 ∧ a0 < 256) ∧ (0 ≤ a1 ∧ a1 < 256) ∧ (0 ≤ a2 ∧ a2 < 256) ∧ (0 ≤ a3 ∧ a3 < 256)) :
    ∃ L' nx', ACall Try.prog 13 [.val (.int .i64 out), .val (.int .i64 inn), .agg [.val (.int .u8 a0), .val (.int .u8 a1), .val (.int .u8 a2), .val (.int .u8 a3)], .val (.int .i64 port), .val (.int .i64 kind)] [] 0 (.val (.bool true)) L' nx' := by
  obtain ⟨ba0, ba1, ba2, ba3⟩ := hb
  cases h1 : (decide (out < (1 : Int)))
  case false =>
    have h1' := of_decide_eq_false h1
    cases h2 : (decide (out > (65535 : Int)))
    case false =>
      have h2' := of_decide_eq_false h2
      cases h3 : (decide (inn < (1 : Int)))
      case false =>
        have h3' := of_decide_eq_false h3
        cases h4 : (decide (inn > (65535 : Int)))
        case false =>
          have h4' := of_decide_eq_false h4
          cases h5 : (decide (port < (0 : Int)))
          case false =>
            have h5' := of_decide_eq_false h5
            cases h6 : (decide (port > (65535 : Int)))
            case false =>
              have h6' := of_decide_eq_false h6
              cases h7 : (decide (kind < (2 : Int)))
              case false =>
                have h7' := of_decide_eq_false h7
                cases h8 : (decide (kind > (4 : Int)))
                case false =>
                  have h8' := of_decide_eq_false h8
                  cases h9 : (kind == (4 : Int))
                  case false =>
                    have h9' := ne_of_beq_false h9
                    have z1 : Int.tmod out (65535 : Int) = out % 65535 := Int.tmod_eq_emod_of_nonneg (by omega)
                    have z2 : IntKind.wrap IntKind.i64 (out % 65535 + (1 : Int)) = out % 65535 + 1 := w64 _ (by omega)
                    obtain ⟨ys1, hy1⟩ : ∃ y, y = udpP a0 a1 a2 a3 203 0 113 7 port out [120] := ⟨_, rfl⟩
                    obtain ⟨l1, k1, n1, fr1, tp1, d1, s1⟩ := udpP_facts (n := 9) hy1 rfl ⟨by omega, by omega⟩ ⟨by omega, by omega⟩ (by decide)
                    obtain ⟨ys2, hy2⟩ : ∃ y, y = udpP a0 a1 a2 a3 10 0 0 9 port inn [120] := ⟨_, rfl⟩
                    obtain ⟨l2, k2, n2, fr2, tp2, d2, s2⟩ := udpP_facts (n := 9) hy2 rfl ⟨by omega, by omega⟩ ⟨by omega, by omega⟩ (by decide)
                    obtain ⟨ys3, hy3⟩ : ∃ y, y = udpP a0 a1 a2 a3 203 0 113 7 port (out % 65535 + 1) [120] := ⟨_, rfl⟩
                    obtain ⟨l3, k3, n3, fr3, tp3, d3, s3⟩ := udpP_facts (n := 9) hy3 rfl ⟨by omega, by omega⟩ ⟨by omega, by omega⟩ (by decide)
                    refine ⟨_, _, (outS_ok kU_ok (natStatics_m out inn a0 a1 a2 a3 port kind ys1 ys2 ys3) ?_).1⟩
                    repeat' (first | exact allNil | refine allCons ?_ ?_ | (with_reducible refine allRp _ ?_ ?_))
                    all_goals (first | (with_reducible assumption) | ((try simp only [z1, z2, l1, k1, n1, fr1, tp1, d1, l2, k2, n2, fr2, tp2, d2, l3, k3, n3, fr3, tp3, d3, Nat.add_sub_cancel_left, List.take_length, List.length_cons, List.length_nil, Nat.reduceSub, Nat.reduceAdd, Nat.zero_add, List.take_succ_cons, List.take_zero]) <;> (first | (with_reducible exact True.intro) | (with_reducible rfl) | (with_reducible assumption) | (with_reducible exact hy1.symm) | (with_reducible exact hy2.symm) | (with_reducible exact hy3.symm) | (with_reducible exact Or.inr s1) | (with_reducible exact Or.inr s2) | (with_reducible exact Or.inr s3) | (exact byte8 (by omega) (by omega) (by omega) (by omega) (by omega) (by omega) (by omega) (by omega)) | (exact decide_eq_false (by omega)) | (exact decide_eq_true (by omega)) | (exact ⟨trivial, by omega⟩) | (exact ⟨by omega, by omega⟩) | (exact ⟨by omega, by omega, by omega⟩) | (with_reducible exact id) | (intros; with_reducible assumption) | omega | (simp; done) | (simp; omega) | (simp (disch := first | omega | (simp; omega)) [str_toList, wu8, isB, lo8_raw, fd256, fd65536, w64, sameO_iff, take_len, List.length_take, List.length_drop]; done) | (simp (disch := first | omega | (simp; omega)) [str_toList, wu8, isB, lo8_raw, fd256, fd65536, w64, sameO_iff, take_len, List.length_take, List.length_drop]; omega))))
                  case true =>
                    have h9' := eq_of_beq h9
                    have z1 : Int.tmod out (65535 : Int) = out % 65535 := Int.tmod_eq_emod_of_nonneg (by omega)
                    have z2 : IntKind.wrap IntKind.i64 (out % 65535 + (1 : Int)) = out % 65535 + 1 := w64 _ (by omega)
                    obtain ⟨ys1, hy1⟩ : ∃ y, y = udpP a0 a1 a2 a3 203 0 113 7 port out [120] := ⟨_, rfl⟩
                    obtain ⟨l1, k1, n1, fr1, tp1, d1, s1⟩ := udpP_facts (n := 9) hy1 rfl ⟨by omega, by omega⟩ ⟨by omega, by omega⟩ (by decide)
                    obtain ⟨ys2, hy2⟩ : ∃ y, y = udpP a0 a1 a2 a3 10 0 0 9 port inn [120] := ⟨_, rfl⟩
                    obtain ⟨l2, k2, n2, fr2, tp2, d2, s2⟩ := udpP_facts (n := 9) hy2 rfl ⟨by omega, by omega⟩ ⟨by omega, by omega⟩ (by decide)
                    obtain ⟨ys3, hy3⟩ : ∃ y, y = udpP a0 a1 a2 a3 203 0 113 7 port (out % 65535 + 1) [120] := ⟨_, rfl⟩
                    obtain ⟨l3, k3, n3, fr3, tp3, d3, s3⟩ := udpP_facts (n := 9) hy3 rfl ⟨by omega, by omega⟩ ⟨by omega, by omega⟩ (by decide)
                    refine ⟨_, _, (outS_ok kU_ok (natStatics_s out inn a0 a1 a2 a3 port kind ys1 ys2 ys3) ?_).1⟩
                    repeat' (first | exact allNil | refine allCons ?_ ?_ | (with_reducible refine allRp _ ?_ ?_))
                    all_goals (first | (with_reducible assumption) | ((try simp only [z1, z2, l1, k1, n1, fr1, tp1, d1, l2, k2, n2, fr2, tp2, d2, l3, k3, n3, fr3, tp3, d3, Nat.add_sub_cancel_left, List.take_length, List.length_cons, List.length_nil, Nat.reduceSub, Nat.reduceAdd, Nat.zero_add, List.take_succ_cons, List.take_zero]) <;> (first | (with_reducible exact True.intro) | (with_reducible rfl) | (with_reducible assumption) | (with_reducible exact hy1.symm) | (with_reducible exact hy2.symm) | (with_reducible exact hy3.symm) | (with_reducible exact Or.inr s1) | (with_reducible exact Or.inr s2) | (with_reducible exact Or.inr s3) | (exact byte8 (by omega) (by omega) (by omega) (by omega) (by omega) (by omega) (by omega) (by omega)) | (exact decide_eq_false (by omega)) | (exact decide_eq_true (by omega)) | (exact ⟨trivial, by omega⟩) | (exact ⟨by omega, by omega⟩) | (exact ⟨by omega, by omega, by omega⟩) | (with_reducible exact id) | (intros; with_reducible assumption) | omega | (simp; done) | (simp; omega) | (simp (disch := first | omega | (simp; omega)) [str_toList, wu8, isB, lo8_raw, fd256, fd65536, w64, sameO_iff, take_len, List.length_take, List.length_drop]; done) | (simp (disch := first | omega | (simp; omega)) [str_toList, wu8, isB, lo8_raw, fd256, fd65536, w64, sameO_iff, take_len, List.length_take, List.length_drop]; omega))))
                case true =>
                  have h8' := of_decide_eq_true h8
                  refine ⟨_, _, (outT_ok kU_ok (natStatics_k1 out inn a0 a1 a2 a3 port kind) ?_).1⟩
                  repeat' (first | exact allNil | refine allCons ?_ ?_ | (with_reducible refine allRp _ ?_ ?_))
                  all_goals (first | (with_reducible assumption) | ((first | (with_reducible exact True.intro) | (with_reducible rfl) | (with_reducible assumption) | (exact decide_eq_false (by omega)) | (exact decide_eq_true (by omega)) | (exact ⟨trivial, by omega⟩) | (exact ⟨by omega, by omega⟩) | (exact ⟨by omega, by omega, by omega⟩) | (with_reducible exact id) | (intros; with_reducible assumption) | omega | (simp; done) | (simp; omega) | (simp (disch := first | omega | (simp; omega)) [str_toList, wu8, isB, lo8_raw, fd256, fd65536, w64, sameO_iff, take_len, List.length_take, List.length_drop]; done) | (simp (disch := first | omega | (simp; omega)) [str_toList, wu8, isB, lo8_raw, fd256, fd65536, w64, sameO_iff, take_len, List.length_take, List.length_drop]; omega))))
              case true =>
                have h7' := of_decide_eq_true h7
                refine ⟨_, _, (outT_ok kU_ok (natStatics_k0 out inn a0 a1 a2 a3 port kind) ?_).1⟩
                repeat' (first | exact allNil | refine allCons ?_ ?_ | (with_reducible refine allRp _ ?_ ?_))
                all_goals (first | (with_reducible assumption) | ((first | (with_reducible exact True.intro) | (with_reducible rfl) | (with_reducible assumption) | (exact decide_eq_false (by omega)) | (exact decide_eq_true (by omega)) | (exact ⟨trivial, by omega⟩) | (exact ⟨by omega, by omega⟩) | (exact ⟨by omega, by omega, by omega⟩) | (with_reducible exact id) | (intros; with_reducible assumption) | omega | (simp; done) | (simp; omega) | (simp (disch := first | omega | (simp; omega)) [str_toList, wu8, isB, lo8_raw, fd256, fd65536, w64, sameO_iff, take_len, List.length_take, List.length_drop]; done) | (simp (disch := first | omega | (simp; omega)) [str_toList, wu8, isB, lo8_raw, fd256, fd65536, w64, sameO_iff, take_len, List.length_take, List.length_drop]; omega))))
            case true =>
              have h6' := of_decide_eq_true h6
              refine ⟨_, _, (outT_ok kU_ok (natStatics_p1 out inn a0 a1 a2 a3 port kind) ?_).1⟩
              repeat' (first | exact allNil | refine allCons ?_ ?_ | (with_reducible refine allRp _ ?_ ?_))
              all_goals (first | (with_reducible assumption) | ((first | (with_reducible exact True.intro) | (with_reducible rfl) | (with_reducible assumption) | (exact decide_eq_false (by omega)) | (exact decide_eq_true (by omega)) | (exact ⟨trivial, by omega⟩) | (exact ⟨by omega, by omega⟩) | (exact ⟨by omega, by omega, by omega⟩) | (with_reducible exact id) | (intros; with_reducible assumption) | omega | (simp; done) | (simp; omega) | (simp (disch := first | omega | (simp; omega)) [str_toList, wu8, isB, lo8_raw, fd256, fd65536, w64, sameO_iff, take_len, List.length_take, List.length_drop]; done) | (simp (disch := first | omega | (simp; omega)) [str_toList, wu8, isB, lo8_raw, fd256, fd65536, w64, sameO_iff, take_len, List.length_take, List.length_drop]; omega))))
          case true =>
            have h5' := of_decide_eq_true h5
            refine ⟨_, _, (outT_ok kU_ok (natStatics_p0 out inn a0 a1 a2 a3 port kind) ?_).1⟩
            repeat' (first | exact allNil | refine allCons ?_ ?_ | (with_reducible refine allRp _ ?_ ?_))
            all_goals (first | (with_reducible assumption) | ((first | (with_reducible exact True.intro) | (with_reducible rfl) | (with_reducible assumption) | (exact decide_eq_false (by omega)) | (exact decide_eq_true (by omega)) | (exact ⟨trivial, by omega⟩) | (exact ⟨by omega, by omega⟩) | (exact ⟨by omega, by omega, by omega⟩) | (with_reducible exact id) | (intros; with_reducible assumption) | omega | (simp; done) | (simp; omega) | (simp (disch := first | omega | (simp; omega)) [str_toList, wu8, isB, lo8_raw, fd256, fd65536, w64, sameO_iff, take_len, List.length_take, List.length_drop]; done) | (simp (disch := first | omega | (simp; omega)) [str_toList, wu8, isB, lo8_raw, fd256, fd65536, w64, sameO_iff, take_len, List.length_take, List.length_drop]; omega))))
        case true =>
          have h4' := of_decide_eq_true h4
          refine ⟨_, _, (outT_ok kU_ok (natStatics_i1 out inn a0 a1 a2 a3 port kind) ?_).1⟩
          repeat' (first | exact allNil | refine allCons ?_ ?_ | (with_reducible refine allRp _ ?_ ?_))
          all_goals (first | (with_reducible assumption) | ((first | (with_reducible exact True.intro) | (with_reducible rfl) | (with_reducible assumption) | (exact decide_eq_false (by omega)) | (exact decide_eq_true (by omega)) | (exact ⟨trivial, by omega⟩) | (exact ⟨by omega, by omega⟩) | (exact ⟨by omega, by omega, by omega⟩) | (with_reducible exact id) | (intros; with_reducible assumption) | omega | (simp; done) | (simp; omega) | (simp (disch := first | omega | (simp; omega)) [str_toList, wu8, isB, lo8_raw, fd256, fd65536, w64, sameO_iff, take_len, List.length_take, List.length_drop]; done) | (simp (disch := first | omega | (simp; omega)) [str_toList, wu8, isB, lo8_raw, fd256, fd65536, w64, sameO_iff, take_len, List.length_take, List.length_drop]; omega))))
      case true =>
        have h3' := of_decide_eq_true h3
        refine ⟨_, _, (outT_ok kU_ok (natStatics_i0 out inn a0 a1 a2 a3 port kind) ?_).1⟩
        repeat' (first | exact allNil | refine allCons ?_ ?_ | (with_reducible refine allRp _ ?_ ?_))
        all_goals (first | (with_reducible assumption) | ((first | (with_reducible exact True.intro) | (with_reducible rfl) | (with_reducible assumption) | (exact decide_eq_false (by omega)) | (exact decide_eq_true (by omega)) | (exact ⟨trivial, by omega⟩) | (exact ⟨by omega, by omega⟩) | (exact ⟨by omega, by omega, by omega⟩) | (with_reducible exact id) | (intros; with_reducible assumption) | omega | (simp; done) | (simp; omega) | (simp (disch := first | omega | (simp; omega)) [str_toList, wu8, isB, lo8_raw, fd256, fd65536, w64, sameO_iff, take_len, List.length_take, List.length_drop]; done) | (simp (disch := first | omega | (simp; omega)) [str_toList, wu8, isB, lo8_raw, fd256, fd65536, w64, sameO_iff, take_len, List.length_take, List.length_drop]; omega))))
    case true =>
      have h2' := of_decide_eq_true h2
      refine ⟨_, _, (outT_ok kU_ok (natStatics_o1 out inn a0 a1 a2 a3 port kind) ?_).1⟩
      repeat' (first | exact allNil | refine allCons ?_ ?_ | (with_reducible refine allRp _ ?_ ?_))
      all_goals (first | (with_reducible assumption) | ((first | (with_reducible exact True.intro) | (with_reducible rfl) | (with_reducible assumption) | (exact decide_eq_false (by omega)) | (exact decide_eq_true (by omega)) | (exact ⟨trivial, by omega⟩) | (exact ⟨by omega, by omega⟩) | (exact ⟨by omega, by omega, by omega⟩) | (with_reducible exact id) | (intros; with_reducible assumption) | omega | (simp; done) | (simp; omega) | (simp (disch := first | omega | (simp; omega)) [str_toList, wu8, isB, lo8_raw, fd256, fd65536, w64, sameO_iff, take_len, List.length_take, List.length_drop]; done) | (simp (disch := first | omega | (simp; omega)) [str_toList, wu8, isB, lo8_raw, fd256, fd65536, w64, sameO_iff, take_len, List.length_take, List.length_drop]; omega))))
  case true =>
    have h1' := of_decide_eq_true h1
    refine ⟨_, _, (outT_ok kU_ok (natStatics_o0 out inn a0 a1 a2 a3 port kind) ?_).1⟩
    repeat' (first | exact allNil | refine allCons ?_ ?_ | (with_reducible refine allRp _ ?_ ?_))
    all_goals (first | (with_reducible assumption) | ((first | (with_reducible exact True.intro) | (with_reducible rfl) | (with_reducible assumption) | (exact decide_eq_false (by omega)) | (exact decide_eq_true (by omega)) | (exact ⟨trivial, by omega⟩) | (exact ⟨by omega, by omega⟩) | (exact ⟨by omega, by omega, by omega⟩) | (with_reducible exact id) | (intros; with_reducible assumption) | omega | (simp; done) | (simp; omega) | (simp (disch := first | omega | (simp; omega)) [str_toList, wu8, isB, lo8_raw, fd256, fd65536, w64, sameO_iff, take_len, List.length_take, List.length_drop]; done) | (simp (disch := first | omega | (simp; omega)) [str_toList, wu8, isB, lo8_raw, fd256, fd65536, w64, sameO_iff, take_len, List.length_take, List.length_drop]; omega))))
end Go.Proofs.Ytecmagdefllihaa.natStatics
