/- The law NatLives, walked: whatever is given, it answers true. -/
import Derived.Test.YtecmagdefllihaaNlRun
import Derived.Test.YtecmagdefllihaaPv
namespace Go.Proofs.Ytecmagdefllihaa.natLives
open Go.RowKit
set_option linter.unusedSimpArgs false

theorem bne_ne {a b : Int} (h : (a != b) = true) : a ≠ b := by simpa using h
theorem bne_eq {a b : Int} (h : (a != b) = false) : a = b := by simpa using h
theorem notd_false {p : Prop} [Decidable p] (h : (!decide p) = false) : p := by simpa using h
theorem notd_true {p : Prop} [Decidable p] (h : (!decide p) = true) : ¬ p := by simpa using h

set_option maxHeartbeats 40000000 in
set_option maxRecDepth 100000 in
theorem walk (how later : Int)  :
    ∃ L' nx', ACall Try.prog 11 [.val (.int .i64 how), .val (.int .i64 later)] [] 0 (.val (.bool true)) L' nx' := by
  have tm0 : 0 ≤ later → later ≤ 8000 → tmW 0 later = later := fun h1 h2 => by unfold tmW; split <;> omega
  cases h1 : (decide (how < (0 : Int)))
  case false =>
    have h1' := of_decide_eq_false h1
    cases h2 : (decide (how > (2 : Int)))
    case false =>
      have h2' := of_decide_eq_false h2
      cases h3 : (decide (later < (0 : Int)))
      case false =>
        have h3' := of_decide_eq_false h3
        cases h4 : (decide (later > (8000 : Int)))
        case false =>
          have h4' := of_decide_eq_false h4
          cases h5 : (decide (how > (0 : Int)))
          case false =>
            have h5' := of_decide_eq_false h5
            cases h6 : (decide (tmW (0 : Int) later < (240 : Int)))
            case false =>
              have h6' := of_decide_eq_false h6
              rw [tm0 (by omega) (by omega)] at h6'
              refine ⟨_, _, ((outS_ok kTT_ok (natLives_l0 how later) ?_).1).truly ?_⟩
              · repeat' (first | exact allNil | refine allCons ?_ ?_ | (with_reducible refine allRp _ ?_ ?_))
                all_goals (first | (with_reducible assumption) | ((first | (with_reducible exact True.intro) | (with_reducible rfl) | (with_reducible assumption) | (exact decide_eq_false (by omega)) | (exact decide_eq_true (by omega)) | (exact ⟨trivial, by omega⟩) | (exact ⟨by omega, by omega⟩) | (exact ⟨by omega, by omega, by omega⟩) | (with_reducible exact id) | (intros; with_reducible assumption) | omega | (simp; done) | (simp; omega) | (simp (disch := first | omega | (simp; omega)) [str_toList, wu8, isB, lo8_raw, fd256, fd65536, w64, sameO_iff, take_len, List.length_take, List.length_drop]; done) | (simp (disch := first | omega | (simp; omega)) [str_toList, wu8, isB, lo8_raw, fd256, fd65536, w64, sameO_iff, take_len, List.length_take, List.length_drop]; omega))))
              · simp; omega
            case true =>
              have h6' := of_decide_eq_true h6
              rw [tm0 (by omega) (by omega)] at h6'
              refine ⟨_, _, ((outT_ok kTT_ok (natLives_s0 how later) ?_).1).truly ?_⟩
              · repeat' (first | exact allNil | refine allCons ?_ ?_ | (with_reducible refine allRp _ ?_ ?_))
                all_goals (first | (with_reducible assumption) | ((first | (with_reducible exact True.intro) | (with_reducible rfl) | (with_reducible assumption) | (exact decide_eq_false (by omega)) | (exact decide_eq_true (by omega)) | (exact ⟨trivial, by omega⟩) | (exact ⟨by omega, by omega⟩) | (exact ⟨by omega, by omega, by omega⟩) | (with_reducible exact id) | (intros; with_reducible assumption) | omega | (simp; done) | (simp; omega) | (simp (disch := first | omega | (simp; omega)) [str_toList, wu8, isB, lo8_raw, fd256, fd65536, w64, sameO_iff, take_len, List.length_take, List.length_drop]; done) | (simp (disch := first | omega | (simp; omega)) [str_toList, wu8, isB, lo8_raw, fd256, fd65536, w64, sameO_iff, take_len, List.length_take, List.length_drop]; omega))))
              · simp; omega
          case true =>
            have h5' := of_decide_eq_true h5
            cases h7 : (how == (2 : Int))
            case false =>
              have h7' := ne_of_beq_false h7
              cases h8 : (decide (tmW (0 : Int) later < (7200 : Int)))
              case false =>
                have h8' := of_decide_eq_false h8
                rw [tm0 (by omega) (by omega)] at h8'
                refine ⟨_, _, ((outS_ok kTT_ok (natLives_l1 how later) ?_).1).truly ?_⟩
                · repeat' (first | exact allNil | refine allCons ?_ ?_ | (with_reducible refine allRp _ ?_ ?_))
                  all_goals (first | (with_reducible assumption) | ((first | (with_reducible exact True.intro) | (with_reducible rfl) | (with_reducible assumption) | (exact decide_eq_false (by omega)) | (exact decide_eq_true (by omega)) | (exact ⟨trivial, by omega⟩) | (exact ⟨by omega, by omega⟩) | (exact ⟨by omega, by omega, by omega⟩) | (with_reducible exact id) | (intros; with_reducible assumption) | omega | (simp; done) | (simp; omega) | (simp (disch := first | omega | (simp; omega)) [str_toList, wu8, isB, lo8_raw, fd256, fd65536, w64, sameO_iff, take_len, List.length_take, List.length_drop]; done) | (simp (disch := first | omega | (simp; omega)) [str_toList, wu8, isB, lo8_raw, fd256, fd65536, w64, sameO_iff, take_len, List.length_take, List.length_drop]; omega))))
                · simp; omega
              case true =>
                have h8' := of_decide_eq_true h8
                rw [tm0 (by omega) (by omega)] at h8'
                refine ⟨_, _, ((outT_ok kTT_ok (natLives_s1 how later) ?_).1).truly ?_⟩
                · repeat' (first | exact allNil | refine allCons ?_ ?_ | (with_reducible refine allRp _ ?_ ?_))
                  all_goals (first | (with_reducible assumption) | ((first | (with_reducible exact True.intro) | (with_reducible rfl) | (with_reducible assumption) | (exact decide_eq_false (by omega)) | (exact decide_eq_true (by omega)) | (exact ⟨trivial, by omega⟩) | (exact ⟨by omega, by omega⟩) | (exact ⟨by omega, by omega, by omega⟩) | (with_reducible exact id) | (intros; with_reducible assumption) | omega | (simp; done) | (simp; omega) | (simp (disch := first | omega | (simp; omega)) [str_toList, wu8, isB, lo8_raw, fd256, fd65536, w64, sameO_iff, take_len, List.length_take, List.length_drop]; done) | (simp (disch := first | omega | (simp; omega)) [str_toList, wu8, isB, lo8_raw, fd256, fd65536, w64, sameO_iff, take_len, List.length_take, List.length_drop]; omega))))
                · simp; omega
            case true =>
              have h7' := eq_of_beq h7
              cases h9 : (decide (tmW (0 : Int) later < (7200 : Int)))
              case false =>
                have h9' := of_decide_eq_false h9
                rw [tm0 (by omega) (by omega)] at h9'
                refine ⟨_, _, ((outS_ok kTT_ok (natLives_l2 how later) ?_).1).truly ?_⟩
                · repeat' (first | exact allNil | refine allCons ?_ ?_ | (with_reducible refine allRp _ ?_ ?_))
                  all_goals (first | (with_reducible assumption) | ((first | (with_reducible exact True.intro) | (with_reducible rfl) | (with_reducible assumption) | (exact decide_eq_false (by omega)) | (exact decide_eq_true (by omega)) | (exact ⟨trivial, by omega⟩) | (exact ⟨by omega, by omega⟩) | (exact ⟨by omega, by omega, by omega⟩) | (with_reducible exact id) | (intros; with_reducible assumption) | omega | (simp; done) | (simp; omega) | (simp (disch := first | omega | (simp; omega)) [str_toList, wu8, isB, lo8_raw, fd256, fd65536, w64, sameO_iff, take_len, List.length_take, List.length_drop]; done) | (simp (disch := first | omega | (simp; omega)) [str_toList, wu8, isB, lo8_raw, fd256, fd65536, w64, sameO_iff, take_len, List.length_take, List.length_drop]; omega))))
                · simp; omega
              case true =>
                have h9' := of_decide_eq_true h9
                rw [tm0 (by omega) (by omega)] at h9'
                refine ⟨_, _, ((outT_ok kTT_ok (natLives_s2 how later) ?_).1).truly ?_⟩
                · repeat' (first | exact allNil | refine allCons ?_ ?_ | (with_reducible refine allRp _ ?_ ?_))
                  all_goals (first | (with_reducible assumption) | ((first | (with_reducible exact True.intro) | (with_reducible rfl) | (with_reducible assumption) | (exact decide_eq_false (by omega)) | (exact decide_eq_true (by omega)) | (exact ⟨trivial, by omega⟩) | (exact ⟨by omega, by omega⟩) | (exact ⟨by omega, by omega, by omega⟩) | (with_reducible exact id) | (intros; with_reducible assumption) | omega | (simp; done) | (simp; omega) | (simp (disch := first | omega | (simp; omega)) [str_toList, wu8, isB, lo8_raw, fd256, fd65536, w64, sameO_iff, take_len, List.length_take, List.length_drop]; done) | (simp (disch := first | omega | (simp; omega)) [str_toList, wu8, isB, lo8_raw, fd256, fd65536, w64, sameO_iff, take_len, List.length_take, List.length_drop]; omega))))
                · simp; omega
        case true =>
          have h4' := of_decide_eq_true h4
          refine ⟨_, _, (outT_ok kTT_ok (natLives_b2 how later) ?_).1⟩
          repeat' (first | exact allNil | refine allCons ?_ ?_ | (with_reducible refine allRp _ ?_ ?_))
          all_goals (first | (with_reducible assumption) | ((first | (with_reducible exact True.intro) | (with_reducible rfl) | (with_reducible assumption) | (exact decide_eq_false (by omega)) | (exact decide_eq_true (by omega)) | (exact ⟨trivial, by omega⟩) | (exact ⟨by omega, by omega⟩) | (exact ⟨by omega, by omega, by omega⟩) | (with_reducible exact id) | (intros; with_reducible assumption) | omega | (simp; done) | (simp; omega) | (simp (disch := first | omega | (simp; omega)) [str_toList, wu8, isB, lo8_raw, fd256, fd65536, w64, sameO_iff, take_len, List.length_take, List.length_drop]; done) | (simp (disch := first | omega | (simp; omega)) [str_toList, wu8, isB, lo8_raw, fd256, fd65536, w64, sameO_iff, take_len, List.length_take, List.length_drop]; omega))))
      case true =>
        have h3' := of_decide_eq_true h3
        refine ⟨_, _, (outT_ok kTT_ok (natLives_b1 how later) ?_).1⟩
        repeat' (first | exact allNil | refine allCons ?_ ?_ | (with_reducible refine allRp _ ?_ ?_))
        all_goals (first | (with_reducible assumption) | ((first | (with_reducible exact True.intro) | (with_reducible rfl) | (with_reducible assumption) | (exact decide_eq_false (by omega)) | (exact decide_eq_true (by omega)) | (exact ⟨trivial, by omega⟩) | (exact ⟨by omega, by omega⟩) | (exact ⟨by omega, by omega, by omega⟩) | (with_reducible exact id) | (intros; with_reducible assumption) | omega | (simp; done) | (simp; omega) | (simp (disch := first | omega | (simp; omega)) [str_toList, wu8, isB, lo8_raw, fd256, fd65536, w64, sameO_iff, take_len, List.length_take, List.length_drop]; done) | (simp (disch := first | omega | (simp; omega)) [str_toList, wu8, isB, lo8_raw, fd256, fd65536, w64, sameO_iff, take_len, List.length_take, List.length_drop]; omega))))
    case true =>
      have h2' := of_decide_eq_true h2
      refine ⟨_, _, (outT_ok kTT_ok (natLives_a2 how later) ?_).1⟩
      repeat' (first | exact allNil | refine allCons ?_ ?_ | (with_reducible refine allRp _ ?_ ?_))
      all_goals (first | (with_reducible assumption) | ((first | (with_reducible exact True.intro) | (with_reducible rfl) | (with_reducible assumption) | (exact decide_eq_false (by omega)) | (exact decide_eq_true (by omega)) | (exact ⟨trivial, by omega⟩) | (exact ⟨by omega, by omega⟩) | (exact ⟨by omega, by omega, by omega⟩) | (with_reducible exact id) | (intros; with_reducible assumption) | omega | (simp; done) | (simp; omega) | (simp (disch := first | omega | (simp; omega)) [str_toList, wu8, isB, lo8_raw, fd256, fd65536, w64, sameO_iff, take_len, List.length_take, List.length_drop]; done) | (simp (disch := first | omega | (simp; omega)) [str_toList, wu8, isB, lo8_raw, fd256, fd65536, w64, sameO_iff, take_len, List.length_take, List.length_drop]; omega))))
  case true =>
    have h1' := of_decide_eq_true h1
    refine ⟨_, _, (outT_ok kTT_ok (natLives_a1 how later) ?_).1⟩
    repeat' (first | exact allNil | refine allCons ?_ ?_ | (with_reducible refine allRp _ ?_ ?_))
    all_goals (first | (with_reducible assumption) | ((first | (with_reducible exact True.intro) | (with_reducible rfl) | (with_reducible assumption) | (exact decide_eq_false (by omega)) | (exact decide_eq_true (by omega)) | (exact ⟨trivial, by omega⟩) | (exact ⟨by omega, by omega⟩) | (exact ⟨by omega, by omega, by omega⟩) | (with_reducible exact id) | (intros; with_reducible assumption) | omega | (simp; done) | (simp; omega) | (simp (disch := first | omega | (simp; omega)) [str_toList, wu8, isB, lo8_raw, fd256, fd65536, w64, sameO_iff, take_len, List.length_take, List.length_drop]; done) | (simp (disch := first | omega | (simp; omega)) [str_toList, wu8, isB, lo8_raw, fd256, fd65536, w64, sameO_iff, take_len, List.length_take, List.length_drop]; omega))))
end Go.Proofs.Ytecmagdefllihaa.natLives
