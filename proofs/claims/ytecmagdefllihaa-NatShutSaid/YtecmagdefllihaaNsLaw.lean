/- The law NatShut, walked: whatever is given, it answers true. -/
import Derived.Test.YtecmagdefllihaaNsRun
import Derived.Test.YtecmagdefllihaaPv
namespace Go.Proofs.Ytecmagdefllihaa.natShut
open Go.RowKit
set_option linter.unusedSimpArgs false

theorem bne_ne {a b : Int} (h : (a != b) = true) : a ≠ b := by simpa using h
theorem bne_eq {a b : Int} (h : (a != b) = false) : a = b := by simpa using h
theorem notd_false {p : Prop} [Decidable p] (h : (!decide p) = false) : p := by simpa using h
theorem notd_true {p : Prop} [Decidable p] (h : (!decide p) = true) : ¬ p := by simpa using h

set_option maxHeartbeats 40000000 in
set_option maxRecDepth 100000 in
theorem walk (tos id flags part ttl proto f0 f1 f2 f3 t0 t1 t2 t3 : Int) (opts body : List UInt8) (now : Int) (hb : (0 ≤ f0 ∧ f0 < 256) ∧ (0 ≤ f1 ∧ f1 < 256) ∧ (0 ≤ f2 ∧ f2 < 256) ∧ (0 ≤ f3 ∧ f3 < 256) ∧ (0 ≤ t0 ∧ t0 < 256) ∧ (0 ≤ t1 ∧ t1 < 256) ∧ (0 ≤ t2 ∧ t2 < 256) ∧ (0 ≤ t3 ∧ t3 < 256)) :
    ∃ L' nx', ACall Try.prog 9 [.agg [.val (.int .i64 tos), .val (.int .i64 id), .val (.int .i64 flags), .val (.int .i64 part), .val (.int .i64 ttl), .val (.int .i64 proto), .val (.int .u8 f0), .val (.int .u8 f1), .val (.int .u8 f2), .val (.int .u8 f3), .val (.int .u8 t0), .val (.int .u8 t1), .val (.int .u8 t2), .val (.int .u8 t3), .bytes opts, .bytes body], .val (.int .i64 now)] [] 0 (.val (.bool true)) L' nx' := by
  obtain ⟨bf0, bf1, bf2, bf3, bt0, bt1, bt2, bt3⟩ := hb
  have hb12 := (body.getD 12 0).toNat_lt
  have y1 : IntKind.wrap IntKind.i64 (Int.fdiv (((body.getD 12 0).toNat : Nat) : Int) (16 : Int)) = ((body.getD 12 0).toNat / 16 : Nat) := by
    rw [Int.fdiv_eq_ediv_of_nonneg _ (by decide), w64 _ (by omega)]; omega
  have y2 : IntKind.wrap IntKind.i64 ((((body.getD 12 0).toNat / 16 : Nat) : Int) * (4 : Int)) = ((body.getD 12 0).toNat / 16 * 4 : Nat) := by
    rw [w64 _ (by omega)]; omega
  have hx0 := (List.getD (List.take (0 + (0 + List.length body - 1 - 1 - 2 - 4)) (List.take (0 + List.length body - 1 - 1 - 2 - 4) (List.drop 8 body))) 0 (0 : UInt8)).toNat_lt
  have z1 := u8_and15 (List.getD (List.take (0 + (0 + List.length body - 1 - 1 - 2 - 4)) (List.take (0 + List.length body - 1 - 1 - 2 - 4) (List.drop 8 body))) 0 (0 : UInt8))
  obtain ⟨q, hq⟩ : ∃ q : Int, q = ((List.getD (List.take (0 + (0 + List.length body - 1 - 1 - 2 - 4)) (List.take (0 + List.length body - 1 - 1 - 2 - 4) (List.drop 8 body))) 0 (0 : UInt8)).toNat : Int) % 16 := ⟨_, rfl⟩
  rw [← hq] at z1
  have hqb : 0 ≤ q ∧ q < 16 := by omega
  have z2 : IntKind.wrap IntKind.i64 q = q := w64 _ (by omega)
  have z3 : IntKind.wrap IntKind.i64 (q * (4 : Int)) = q * 4 := w64 _ (by omega)
  cases h1 : (decide ((↑(List.length body) : Int) > (1500 : Int)))
  case false =>
    have h1' := of_decide_eq_false h1
    cases h2 : (decide ((↑(List.length opts) : Int) > (60 : Int)))
    case false =>
      have h2' := of_decide_eq_false h2
      cases h3 : (!(t0 == (203 : Int) && (t1 == (0 : Int) && (t2 == (113 : Int) && (t3 == (7 : Int) && true)))))
      case false =>
        cases h4 : (!bif part == (0 : Int) then bits BinOp.and IntKind.i64 flags (1 : Int) == (0 : Int) else false)
        case false =>
          cases h5 : (proto == (17 : Int))
          case false =>
            have h5' := ne_of_beq_false h5
            cases h6 : (proto == (6 : Int))
            case false =>
              have h6' := ne_of_beq_false h6
              cases h7 : (proto == (1 : Int))
              case false =>
                have h7' := ne_of_beq_false h7
                refine ⟨_, _, (outT_ok kTT_ok (natShut_other tos id flags part ttl proto f0 f1 f2 f3 t0 t1 t2 t3 opts body now) ?_).1⟩
                repeat' (first | exact allNil | refine allCons ?_ ?_ | (with_reducible refine allRp _ ?_ ?_))
                all_goals (first | (with_reducible assumption) | ((first | (with_reducible exact True.intro) | (with_reducible rfl) | (with_reducible assumption) | (exact decide_eq_false (by omega)) | (exact decide_eq_true (by omega)) | (exact ⟨trivial, by omega⟩) | (exact ⟨by omega, by omega⟩) | (exact ⟨by omega, by omega, by omega⟩) | (with_reducible exact id) | (intros; with_reducible assumption) | omega | (simp; done) | (simp; omega) | (simp (disch := first | omega | (simp; omega)) [str_toList, wu8, isB, lo8_raw, fd256, fd65536, w64, sameO_iff, take_len, List.length_take, List.length_drop]; done) | (simp (disch := first | omega | (simp; omega)) [str_toList, wu8, isB, lo8_raw, fd256, fd65536, w64, sameO_iff, take_len, List.length_take, List.length_drop]; omega))))
              case true =>
                have h7' := eq_of_beq h7
                cases h8 : (decide ((↑(List.length body) : Int) < (8 : Int)))
                case false =>
                  have h8' := of_decide_eq_false h8
                  cases h9 : (!ofL body == 0)
                  case false =>
                    cases h10 : (bif bif (↑(at8 body 0) : Int) != (8 : Int) then (↑(at8 body 0) : Int) != (0 : Int) else false then true else (↑(at8 body 1) : Int) != (0 : Int))
                    case false =>
                      refine ⟨_, _, (outT_ok kTT_ok (natShut_i_query tos id flags part ttl proto f0 f1 f2 f3 t0 t1 t2 t3 opts body now) ?_).1⟩
                      repeat' (first | exact allNil | refine allCons ?_ ?_ | (with_reducible refine allRp _ ?_ ?_))
                      all_goals (first | (with_reducible assumption) | ((first | (with_reducible exact True.intro) | (with_reducible rfl) | (with_reducible assumption) | (exact decide_eq_false (by omega)) | (exact decide_eq_true (by omega)) | (exact ⟨trivial, by omega⟩) | (exact ⟨by omega, by omega⟩) | (exact ⟨by omega, by omega, by omega⟩) | (with_reducible exact id) | (intros; with_reducible assumption) | omega | (simp; done) | (simp; omega) | (simp (disch := first | omega | (simp; omega)) [str_toList, wu8, isB, lo8_raw, fd256, fd65536, w64, sameO_iff, take_len, List.length_take, List.length_drop]; done) | (simp (disch := first | omega | (simp; omega)) [str_toList, wu8, isB, lo8_raw, fd256, fd65536, w64, sameO_iff, take_len, List.length_take, List.length_drop]; omega))))
                    case true =>
                      cases h11 : (!bif bif (↑(at8 body 0) : Int) == (3 : Int) then true else (↑(at8 body 0) : Int) == (11 : Int) then true else (↑(at8 body 0) : Int) == (12 : Int))
                      case false =>
                        cases h12 : (decide ((↑(0 + (0 + (0 + List.length body - 1 - 1 - 2 - 4))) : Int) < (24 : Int)))
                        case false =>
                          have h12' := of_decide_eq_false h12
                          cases h13 : (Int.fdiv (↑(UInt8.toNat (List.getD (List.take (0 + (0 + List.length body - 1 - 1 - 2 - 4)) (List.take (0 + List.length body - 1 - 1 - 2 - 4) (List.drop 8 body))) 0 (0 : UInt8))) : Int) (16 : Int) != (4 : Int))
                          case false =>
                            have h13' := bne_eq h13
                            cases h14 : (decide (IntKind.wrap IntKind.i64 (IntKind.wrap IntKind.i64 (bits BinOp.and IntKind.u8 (↑(UInt8.toNat (List.getD (List.take (0 + (0 + List.length body - 1 - 1 - 2 - 4)) (List.take (0 + List.length body - 1 - 1 - 2 - 4) (List.drop 8 body))) 0 (0 : UInt8))) : Int) (15 : Int)) * (4 : Int)) < (20 : Int)))
                            case false =>
                              have h14' := of_decide_eq_false h14
                              simp only [z1, z2, z3] at h14'
                              try simp (disch := omega) only [w64] at h14'
                              cases h15 : (decide (IntKind.wrap IntKind.i64 (IntKind.wrap IntKind.i64 (IntKind.wrap IntKind.i64 (bits BinOp.and IntKind.u8 (↑(UInt8.toNat (List.getD (List.take (0 + (0 + List.length body - 1 - 1 - 2 - 4)) (List.take (0 + List.length body - 1 - 1 - 2 - 4) (List.drop 8 body))) 0 (0 : UInt8))) : Int) (15 : Int)) * (4 : Int)) + (4 : Int)) > (↑(0 + (0 + (0 + List.length body - 1 - 1 - 2 - 4))) : Int)))
                              case false =>
                                have h15' := of_decide_eq_false h15
                                simp only [z1, z2, z3] at h15'
                                try simp (disch := omega) only [w64] at h15'
                                cases h16 : (!ofL (List.take (Int.toNat (IntKind.wrap IntKind.i64 (IntKind.wrap IntKind.i64 (bits BinOp.and IntKind.u8 (↑(UInt8.toNat (List.getD (List.take (0 + (0 + List.length body - 1 - 1 - 2 - 4)) (List.take (0 + List.length body - 1 - 1 - 2 - 4) (List.drop 8 body))) 0 (0 : UInt8))) : Int) (15 : Int)) * (4 : Int)))) (List.take (0 + (0 + List.length body - 1 - 1 - 2 - 4)) (List.take (0 + List.length body - 1 - 1 - 2 - 4) (List.drop 8 body)))) == 0)
                                case false =>
                                  cases h17 : (!((↑(UInt8.toNat (List.getD (List.take (0 + (0 + (0 + List.length body - 1 - 1 - 2 - 4)) - 12) (List.drop 12 (List.take (0 + (0 + List.length body - 1 - 1 - 2 - 4)) (List.take (0 + List.length body - 1 - 1 - 2 - 4) (List.drop 8 body))))) 0 (0 : UInt8))) : Int) == (203 : Int) && ((↑(UInt8.toNat (List.getD (List.take (0 + (0 + (0 + List.length body - 1 - 1 - 2 - 4)) - 12) (List.drop 12 (List.take (0 + (0 + List.length body - 1 - 1 - 2 - 4)) (List.take (0 + List.length body - 1 - 1 - 2 - 4) (List.drop 8 body))))) 1 (0 : UInt8))) : Int) == (0 : Int) && ((↑(UInt8.toNat (List.getD (List.take (0 + (0 + (0 + List.length body - 1 - 1 - 2 - 4)) - 12) (List.drop 12 (List.take (0 + (0 + List.length body - 1 - 1 - 2 - 4)) (List.take (0 + List.length body - 1 - 1 - 2 - 4) (List.drop 8 body))))) 2 (0 : UInt8))) : Int) == (113 : Int) && ((↑(UInt8.toNat (List.getD (List.take (0 + (0 + (0 + List.length body - 1 - 1 - 2 - 4)) - 12) (List.drop 12 (List.take (0 + (0 + List.length body - 1 - 1 - 2 - 4)) (List.take (0 + List.length body - 1 - 1 - 2 - 4) (List.drop 8 body))))) 3 (0 : UInt8))) : Int) == (7 : Int) && true)))))
                                  case false =>
                                    cases h18 : (!bif bif IntKind.wrap IntKind.i64 (↑(UInt8.toNat (List.getD (List.take (0 + (0 + List.length body - 1 - 1 - 2 - 4)) (List.take (0 + List.length body - 1 - 1 - 2 - 4) (List.drop 8 body))) 9 (0 : UInt8))) : Int) == (17 : Int) then true else IntKind.wrap IntKind.i64 (↑(UInt8.toNat (List.getD (List.take (0 + (0 + List.length body - 1 - 1 - 2 - 4)) (List.take (0 + List.length body - 1 - 1 - 2 - 4) (List.drop 8 body))) 9 (0 : UInt8))) : Int) == (6 : Int) then true else IntKind.wrap IntKind.i64 (↑(UInt8.toNat (List.getD (List.take (0 + (0 + List.length body - 1 - 1 - 2 - 4)) (List.take (0 + List.length body - 1 - 1 - 2 - 4) (List.drop 8 body))) 9 (0 : UInt8))) : Int) == (1 : Int))
                                    case false =>
                                      cases h19 : (IntKind.wrap IntKind.i64 (↑(UInt8.toNat (List.getD (List.take (0 + (0 + List.length body - 1 - 1 - 2 - 4)) (List.take (0 + List.length body - 1 - 1 - 2 - 4) (List.drop 8 body))) 9 (0 : UInt8))) : Int) == (1 : Int))
                                      case false =>
                                        have h19' := ne_of_beq_false h19
                                        refine ⟨_, _, (outT_ok kTT_ok (natShut_i_f_udp tos id flags part ttl proto f0 f1 f2 f3 t0 t1 t2 t3 opts body now) ?_).1⟩
                                        repeat' (first | exact allNil | refine allCons ?_ ?_ | (with_reducible refine allRp _ ?_ ?_))
                                        all_goals (first | (with_reducible assumption) | ((try simp only [z1, z2, z3]) <;> (first | (with_reducible exact True.intro) | (with_reducible rfl) | (with_reducible assumption) | (exact decide_eq_false (by omega)) | (exact decide_eq_true (by omega)) | (exact ⟨trivial, by omega⟩) | (exact ⟨by omega, by omega⟩) | (exact ⟨by omega, by omega, by omega⟩) | (with_reducible exact id) | (intros; with_reducible assumption) | omega | (simp; done) | (simp; omega) | (simp (disch := first | omega | (simp; omega)) [str_toList, wu8, isB, lo8_raw, fd256, fd65536, w64, sameO_iff, take_len, List.length_take, List.length_drop]; done) | (simp (disch := first | omega | (simp; omega)) [str_toList, wu8, isB, lo8_raw, fd256, fd65536, w64, sameO_iff, take_len, List.length_take, List.length_drop]; omega))))
                                      case true =>
                                        have h19' := eq_of_beq h19
                                        cases h20 : (!decide (IntKind.wrap IntKind.i64 (IntKind.wrap IntKind.i64 (IntKind.wrap IntKind.i64 (IntKind.wrap IntKind.i64 (bits BinOp.and IntKind.u8 (↑(UInt8.toNat (List.getD (List.take (0 + (0 + List.length body - 1 - 1 - 2 - 4)) (List.take (0 + List.length body - 1 - 1 - 2 - 4) (List.drop 8 body))) 0 (0 : UInt8))) : Int) (15 : Int)) * (4 : Int)) + (4 : Int)) + (2 : Int)) ≤ (↑(0 + (0 + (0 + List.length body - 1 - 1 - 2 - 4))) : Int)))
                                        case false =>
                                          have h20' := notd_false h20
                                          simp only [z1, z2, z3] at h20'
                                          try simp (disch := omega) only [w64] at h20'
                                          refine ⟨_, _, (outT_ok kTT_ok (natShut_i_f_icmp tos id flags part ttl proto f0 f1 f2 f3 t0 t1 t2 t3 opts body now) ?_).1⟩
                                          repeat' (first | exact allNil | refine allCons ?_ ?_ | (with_reducible refine allRp _ ?_ ?_))
                                          all_goals (first | (with_reducible assumption) | ((try simp only [z1, z2, z3]) <;> (first | (with_reducible exact True.intro) | (with_reducible rfl) | (with_reducible assumption) | (exact decide_eq_false (by omega)) | (exact decide_eq_true (by omega)) | (exact ⟨trivial, by omega⟩) | (exact ⟨by omega, by omega⟩) | (exact ⟨by omega, by omega, by omega⟩) | (with_reducible exact id) | (intros; with_reducible assumption) | omega | (simp; done) | (simp; omega) | (simp (disch := first | omega | (simp; omega)) [str_toList, wu8, isB, lo8_raw, fd256, fd65536, w64, sameO_iff, take_len, List.length_take, List.length_drop]; done) | (simp (disch := first | omega | (simp; omega)) [str_toList, wu8, isB, lo8_raw, fd256, fd65536, w64, sameO_iff, take_len, List.length_take, List.length_drop]; omega))))
                                        case true =>
                                          have h20' := notd_true h20
                                          simp only [z1, z2, z3] at h20'
                                          try simp (disch := omega) only [w64] at h20'
                                          refine ⟨_, _, (outT_ok kTT_ok (natShut_i_f_place tos id flags part ttl proto f0 f1 f2 f3 t0 t1 t2 t3 opts body now) ?_).1⟩
                                          repeat' (first | exact allNil | refine allCons ?_ ?_ | (with_reducible refine allRp _ ?_ ?_))
                                          all_goals (first | (with_reducible assumption) | ((try simp only [z1, z2, z3]) <;> (first | (with_reducible exact True.intro) | (with_reducible rfl) | (with_reducible assumption) | (exact decide_eq_false (by omega)) | (exact decide_eq_true (by omega)) | (exact ⟨trivial, by omega⟩) | (exact ⟨by omega, by omega⟩) | (exact ⟨by omega, by omega, by omega⟩) | (with_reducible exact id) | (intros; with_reducible assumption) | omega | (simp; done) | (simp; omega) | (simp (disch := first | omega | (simp; omega)) [str_toList, wu8, isB, lo8_raw, fd256, fd65536, w64, sameO_iff, take_len, List.length_take, List.length_drop]; done) | (simp (disch := first | omega | (simp; omega)) [str_toList, wu8, isB, lo8_raw, fd256, fd65536, w64, sameO_iff, take_len, List.length_take, List.length_drop]; omega))))
                                    case true =>
                                      refine ⟨_, _, (outT_ok kTT_ok (natShut_i_f_proto tos id flags part ttl proto f0 f1 f2 f3 t0 t1 t2 t3 opts body now) ?_).1⟩
                                      repeat' (first | exact allNil | refine allCons ?_ ?_ | (with_reducible refine allRp _ ?_ ?_))
                                      all_goals (first | (with_reducible assumption) | ((try simp only [z1, z2, z3]) <;> (first | (with_reducible exact True.intro) | (with_reducible rfl) | (with_reducible assumption) | (exact decide_eq_false (by omega)) | (exact decide_eq_true (by omega)) | (exact ⟨trivial, by omega⟩) | (exact ⟨by omega, by omega⟩) | (exact ⟨by omega, by omega, by omega⟩) | (with_reducible exact id) | (intros; with_reducible assumption) | omega | (simp; done) | (simp; omega) | (simp (disch := first | omega | (simp; omega)) [str_toList, wu8, isB, lo8_raw, fd256, fd65536, w64, sameO_iff, take_len, List.length_take, List.length_drop]; done) | (simp (disch := first | omega | (simp; omega)) [str_toList, wu8, isB, lo8_raw, fd256, fd65536, w64, sameO_iff, take_len, List.length_take, List.length_drop]; omega))))
                                  case true =>
                                    refine ⟨_, _, (outT_ok kTT_ok (natShut_i_f_from tos id flags part ttl proto f0 f1 f2 f3 t0 t1 t2 t3 opts body now) ?_).1⟩
                                    repeat' (first | exact allNil | refine allCons ?_ ?_ | (with_reducible refine allRp _ ?_ ?_))
                                    all_goals (first | (with_reducible assumption) | ((try simp only [z1, z2, z3]) <;> (first | (with_reducible exact True.intro) | (with_reducible rfl) | (with_reducible assumption) | (exact decide_eq_false (by omega)) | (exact decide_eq_true (by omega)) | (exact ⟨trivial, by omega⟩) | (exact ⟨by omega, by omega⟩) | (exact ⟨by omega, by omega, by omega⟩) | (with_reducible exact id) | (intros; with_reducible assumption) | omega | (simp; done) | (simp; omega) | (simp (disch := first | omega | (simp; omega)) [str_toList, wu8, isB, lo8_raw, fd256, fd65536, w64, sameO_iff, take_len, List.length_take, List.length_drop]; done) | (simp (disch := first | omega | (simp; omega)) [str_toList, wu8, isB, lo8_raw, fd256, fd65536, w64, sameO_iff, take_len, List.length_take, List.length_drop]; omega))))
                                case true =>
                                  refine ⟨_, _, (outT_ok kTT_ok (natShut_i_f_sum tos id flags part ttl proto f0 f1 f2 f3 t0 t1 t2 t3 opts body now) ?_).1⟩
                                  repeat' (first | exact allNil | refine allCons ?_ ?_ | (with_reducible refine allRp _ ?_ ?_))
                                  all_goals (first | (with_reducible assumption) | ((try simp only [z1, z2, z3]) <;> (first | (with_reducible exact True.intro) | (with_reducible rfl) | (with_reducible assumption) | (exact decide_eq_false (by omega)) | (exact decide_eq_true (by omega)) | (exact ⟨trivial, by omega⟩) | (exact ⟨by omega, by omega⟩) | (exact ⟨by omega, by omega, by omega⟩) | (with_reducible exact id) | (intros; with_reducible assumption) | omega | (simp; done) | (simp; omega) | (simp (disch := first | omega | (simp; omega)) [str_toList, wu8, isB, lo8_raw, fd256, fd65536, w64, sameO_iff, take_len, List.length_take, List.length_drop]; done) | (simp (disch := first | omega | (simp; omega)) [str_toList, wu8, isB, lo8_raw, fd256, fd65536, w64, sameO_iff, take_len, List.length_take, List.length_drop]; omega))))
                              case true =>
                                have h15' := of_decide_eq_true h15
                                simp only [z1, z2, z3] at h15'
                                try simp (disch := omega) only [w64] at h15'
                                refine ⟨_, _, (outT_ok kTT_ok (natShut_i_f_cut tos id flags part ttl proto f0 f1 f2 f3 t0 t1 t2 t3 opts body now) ?_).1⟩
                                repeat' (first | exact allNil | refine allCons ?_ ?_ | (with_reducible refine allRp _ ?_ ?_))
                                all_goals (first | (with_reducible assumption) | ((try simp only [z1, z2, z3]) <;> (first | (with_reducible exact True.intro) | (with_reducible rfl) | (with_reducible assumption) | (exact decide_eq_false (by omega)) | (exact decide_eq_true (by omega)) | (exact ⟨trivial, by omega⟩) | (exact ⟨by omega, by omega⟩) | (exact ⟨by omega, by omega, by omega⟩) | (with_reducible exact id) | (intros; with_reducible assumption) | omega | (simp; done) | (simp; omega) | (simp (disch := first | omega | (simp; omega)) [str_toList, wu8, isB, lo8_raw, fd256, fd65536, w64, sameO_iff, take_len, List.length_take, List.length_drop]; done) | (simp (disch := first | omega | (simp; omega)) [str_toList, wu8, isB, lo8_raw, fd256, fd65536, w64, sameO_iff, take_len, List.length_take, List.length_drop]; omega))))
                            case true =>
                              have h14' := of_decide_eq_true h14
                              simp only [z1, z2, z3] at h14'
                              try simp (disch := omega) only [w64] at h14'
                              refine ⟨_, _, (outT_ok kTT_ok (natShut_i_f_head tos id flags part ttl proto f0 f1 f2 f3 t0 t1 t2 t3 opts body now) ?_).1⟩
                              repeat' (first | exact allNil | refine allCons ?_ ?_ | (with_reducible refine allRp _ ?_ ?_))
                              all_goals (first | (with_reducible assumption) | ((try simp only [z1, z2, z3]) <;> (first | (with_reducible exact True.intro) | (with_reducible rfl) | (with_reducible assumption) | (exact decide_eq_false (by omega)) | (exact decide_eq_true (by omega)) | (exact ⟨trivial, by omega⟩) | (exact ⟨by omega, by omega⟩) | (exact ⟨by omega, by omega, by omega⟩) | (with_reducible exact id) | (intros; with_reducible assumption) | omega | (simp; done) | (simp; omega) | (simp (disch := first | omega | (simp; omega)) [str_toList, wu8, isB, lo8_raw, fd256, fd65536, w64, sameO_iff, take_len, List.length_take, List.length_drop]; done) | (simp (disch := first | omega | (simp; omega)) [str_toList, wu8, isB, lo8_raw, fd256, fd65536, w64, sameO_iff, take_len, List.length_take, List.length_drop]; omega))))
                          case true =>
                            have h13' := bne_ne h13
                            refine ⟨_, _, (outT_ok kTT_ok (natShut_i_f_ver tos id flags part ttl proto f0 f1 f2 f3 t0 t1 t2 t3 opts body now) ?_).1⟩
                            repeat' (first | exact allNil | refine allCons ?_ ?_ | (with_reducible refine allRp _ ?_ ?_))
                            all_goals (first | (with_reducible assumption) | ((try simp only [z1, z2, z3]) <;> (first | (with_reducible exact True.intro) | (with_reducible rfl) | (with_reducible assumption) | (exact decide_eq_false (by omega)) | (exact decide_eq_true (by omega)) | (exact ⟨trivial, by omega⟩) | (exact ⟨by omega, by omega⟩) | (exact ⟨by omega, by omega, by omega⟩) | (with_reducible exact id) | (intros; with_reducible assumption) | omega | (simp; done) | (simp; omega) | (simp (disch := first | omega | (simp; omega)) [str_toList, wu8, isB, lo8_raw, fd256, fd65536, w64, sameO_iff, take_len, List.length_take, List.length_drop]; done) | (simp (disch := first | omega | (simp; omega)) [str_toList, wu8, isB, lo8_raw, fd256, fd65536, w64, sameO_iff, take_len, List.length_take, List.length_drop]; omega))))
                        case true =>
                          have h12' := of_decide_eq_true h12
                          refine ⟨_, _, (outT_ok kTT_ok (natShut_i_f_short tos id flags part ttl proto f0 f1 f2 f3 t0 t1 t2 t3 opts body now) ?_).1⟩
                          repeat' (first | exact allNil | refine allCons ?_ ?_ | (with_reducible refine allRp _ ?_ ?_))
                          all_goals (first | (with_reducible assumption) | ((try simp only [z1, z2, z3]) <;> (first | (with_reducible exact True.intro) | (with_reducible rfl) | (with_reducible assumption) | (exact decide_eq_false (by omega)) | (exact decide_eq_true (by omega)) | (exact ⟨trivial, by omega⟩) | (exact ⟨by omega, by omega⟩) | (exact ⟨by omega, by omega, by omega⟩) | (with_reducible exact id) | (intros; with_reducible assumption) | omega | (simp; done) | (simp; omega) | (simp (disch := first | omega | (simp; omega)) [str_toList, wu8, isB, lo8_raw, fd256, fd65536, w64, sameO_iff, take_len, List.length_take, List.length_drop]; done) | (simp (disch := first | omega | (simp; omega)) [str_toList, wu8, isB, lo8_raw, fd256, fd65536, w64, sameO_iff, take_len, List.length_take, List.length_drop]; omega))))
                      case true =>
                        refine ⟨_, _, (outT_ok kTT_ok (natShut_i_deny tos id flags part ttl proto f0 f1 f2 f3 t0 t1 t2 t3 opts body now) ?_).1⟩
                        repeat' (first | exact allNil | refine allCons ?_ ?_ | (with_reducible refine allRp _ ?_ ?_))
                        all_goals (first | (with_reducible assumption) | ((first | (with_reducible exact True.intro) | (with_reducible rfl) | (with_reducible assumption) | (exact decide_eq_false (by omega)) | (exact decide_eq_true (by omega)) | (exact ⟨trivial, by omega⟩) | (exact ⟨by omega, by omega⟩) | (exact ⟨by omega, by omega, by omega⟩) | (with_reducible exact id) | (intros; with_reducible assumption) | omega | (simp; done) | (simp; omega) | (simp (disch := first | omega | (simp; omega)) [str_toList, wu8, isB, lo8_raw, fd256, fd65536, w64, sameO_iff, take_len, List.length_take, List.length_drop]; done) | (simp (disch := first | omega | (simp; omega)) [str_toList, wu8, isB, lo8_raw, fd256, fd65536, w64, sameO_iff, take_len, List.length_take, List.length_drop]; omega))))
                  case true =>
                    refine ⟨_, _, (outT_ok kTT_ok (natShut_i_sum tos id flags part ttl proto f0 f1 f2 f3 t0 t1 t2 t3 opts body now) ?_).1⟩
                    repeat' (first | exact allNil | refine allCons ?_ ?_ | (with_reducible refine allRp _ ?_ ?_))
                    all_goals (first | (with_reducible assumption) | ((first | (with_reducible exact True.intro) | (with_reducible rfl) | (with_reducible assumption) | (exact decide_eq_false (by omega)) | (exact decide_eq_true (by omega)) | (exact ⟨trivial, by omega⟩) | (exact ⟨by omega, by omega⟩) | (exact ⟨by omega, by omega, by omega⟩) | (with_reducible exact id) | (intros; with_reducible assumption) | omega | (simp; done) | (simp; omega) | (simp (disch := first | omega | (simp; omega)) [str_toList, wu8, isB, lo8_raw, fd256, fd65536, w64, sameO_iff, take_len, List.length_take, List.length_drop]; done) | (simp (disch := first | omega | (simp; omega)) [str_toList, wu8, isB, lo8_raw, fd256, fd65536, w64, sameO_iff, take_len, List.length_take, List.length_drop]; omega))))
                case true =>
                  have h8' := of_decide_eq_true h8
                  refine ⟨_, _, (outT_ok kTT_ok (natShut_i_short tos id flags part ttl proto f0 f1 f2 f3 t0 t1 t2 t3 opts body now) ?_).1⟩
                  repeat' (first | exact allNil | refine allCons ?_ ?_ | (with_reducible refine allRp _ ?_ ?_))
                  all_goals (first | (with_reducible assumption) | ((first | (with_reducible exact True.intro) | (with_reducible rfl) | (with_reducible assumption) | (exact decide_eq_false (by omega)) | (exact decide_eq_true (by omega)) | (exact ⟨trivial, by omega⟩) | (exact ⟨by omega, by omega⟩) | (exact ⟨by omega, by omega, by omega⟩) | (with_reducible exact id) | (intros; with_reducible assumption) | omega | (simp; done) | (simp; omega) | (simp (disch := first | omega | (simp; omega)) [str_toList, wu8, isB, lo8_raw, fd256, fd65536, w64, sameO_iff, take_len, List.length_take, List.length_drop]; done) | (simp (disch := first | omega | (simp; omega)) [str_toList, wu8, isB, lo8_raw, fd256, fd65536, w64, sameO_iff, take_len, List.length_take, List.length_drop]; omega))))
            case true =>
              have h6' := eq_of_beq h6
              cases h21 : (decide ((↑(List.length body) : Int) < (20 : Int)))
              case false =>
                have h21' := of_decide_eq_false h21
                cases h22 : (decide (IntKind.wrap IntKind.i64 (IntKind.wrap IntKind.i64 (Int.fdiv (↑(UInt8.toNat (List.getD body 12 (0 : UInt8))) : Int) (16 : Int)) * (4 : Int)) < (20 : Int)))
                case false =>
                  have h22' := of_decide_eq_false h22
                  simp only [y1, y2] at h22'
                  cases h23 : (decide (IntKind.wrap IntKind.i64 (IntKind.wrap IntKind.i64 (Int.fdiv (↑(UInt8.toNat (List.getD body 12 (0 : UInt8))) : Int) (16 : Int)) * (4 : Int)) > (↑(List.length body) : Int)))
                  case false =>
                    have h23' := of_decide_eq_false h23
                    simp only [y1, y2] at h23'
                    cases h24 : ((↑(ofL (List.take (12 + List.length body) (UInt8.ofNat (Int.toNat f0) :: UInt8.ofNat (Int.toNat f1) :: UInt8.ofNat (Int.toNat f2) :: UInt8.ofNat (Int.toNat f3) :: UInt8.ofNat (Int.toNat t0) :: UInt8.ofNat (Int.toNat t1) :: UInt8.ofNat (Int.toNat t2) :: UInt8.ofNat (Int.toNat t3) :: (0 : UInt8) :: UInt8.ofNat (Int.toNat (IntKind.wrap IntKind.u8 proto)) :: UInt8.ofNat (Int.toNat (IntKind.wrap IntKind.u8 (Int.fdiv (↑(List.length body) : Int) (256 : Int)))) :: UInt8.ofNat (Int.toNat (IntKind.wrap IntKind.u8 (↑(List.length body) : Int))) :: body))) : Int) != (0 : Int))
                    case false =>
                      have h24' := bne_eq h24
                      have y3 : IntKind.wrap IntKind.i64 ((((body.getD 12 0).toNat / 16 * 4 : Nat) : Int) - (20 : Int)) = ((body.getD 12 0).toNat / 16 * 4 : Nat) - 20 := w64 _ (by omega)
                      refine ⟨_, _, (outT_ok kTT_ok (natShut_t_ok tos id flags part ttl proto f0 f1 f2 f3 t0 t1 t2 t3 opts body now) ?_).1⟩
                      repeat' (first | exact allNil | refine allCons ?_ ?_ | (with_reducible refine allRp _ ?_ ?_))
                      all_goals (first | (with_reducible assumption) | ((try simp only [y1, y2, y3]) <;> (first | (with_reducible exact True.intro) | (with_reducible rfl) | (with_reducible assumption) | (exact decide_eq_false (by omega)) | (exact decide_eq_true (by omega)) | (exact ⟨trivial, by omega⟩) | (exact ⟨by omega, by omega⟩) | (exact ⟨by omega, by omega, by omega⟩) | (with_reducible exact id) | (intros; with_reducible assumption) | omega | (simp; done) | (simp; omega) | (simp (disch := first | omega | (simp; omega)) [str_toList, wu8, isB, lo8_raw, fd256, fd65536, w64, sameO_iff, take_len, List.length_take, List.length_drop]; done) | (simp (disch := first | omega | (simp; omega)) [str_toList, wu8, isB, lo8_raw, fd256, fd65536, w64, sameO_iff, take_len, List.length_take, List.length_drop]; omega))))
                    case true =>
                      have h24' := bne_ne h24
                      refine ⟨_, _, (outT_ok kTT_ok (natShut_t_sum tos id flags part ttl proto f0 f1 f2 f3 t0 t1 t2 t3 opts body now) ?_).1⟩
                      repeat' (first | exact allNil | refine allCons ?_ ?_ | (with_reducible refine allRp _ ?_ ?_))
                      all_goals (first | (with_reducible assumption) | ((first | (with_reducible exact True.intro) | (with_reducible rfl) | (with_reducible assumption) | (exact decide_eq_false (by omega)) | (exact decide_eq_true (by omega)) | (exact ⟨trivial, by omega⟩) | (exact ⟨by omega, by omega⟩) | (exact ⟨by omega, by omega, by omega⟩) | (with_reducible exact id) | (intros; with_reducible assumption) | omega | (simp; done) | (simp; omega) | (simp (disch := first | omega | (simp; omega)) [str_toList, wu8, isB, lo8_raw, fd256, fd65536, w64, sameO_iff, take_len, List.length_take, List.length_drop]; done) | (simp (disch := first | omega | (simp; omega)) [str_toList, wu8, isB, lo8_raw, fd256, fd65536, w64, sameO_iff, take_len, List.length_take, List.length_drop]; omega))))
                  case true =>
                    have h23' := of_decide_eq_true h23
                    simp only [y1, y2] at h23'
                    refine ⟨_, _, (outT_ok kTT_ok (natShut_t_long tos id flags part ttl proto f0 f1 f2 f3 t0 t1 t2 t3 opts body now) ?_).1⟩
                    repeat' (first | exact allNil | refine allCons ?_ ?_ | (with_reducible refine allRp _ ?_ ?_))
                    all_goals (first | (with_reducible assumption) | ((first | (with_reducible exact True.intro) | (with_reducible rfl) | (with_reducible assumption) | (exact decide_eq_false (by omega)) | (exact decide_eq_true (by omega)) | (exact ⟨trivial, by omega⟩) | (exact ⟨by omega, by omega⟩) | (exact ⟨by omega, by omega, by omega⟩) | (with_reducible exact id) | (intros; with_reducible assumption) | omega | (simp; done) | (simp; omega) | (simp (disch := first | omega | (simp; omega)) [str_toList, wu8, isB, lo8_raw, fd256, fd65536, w64, sameO_iff, take_len, List.length_take, List.length_drop]; done) | (simp (disch := first | omega | (simp; omega)) [str_toList, wu8, isB, lo8_raw, fd256, fd65536, w64, sameO_iff, take_len, List.length_take, List.length_drop]; omega))))
                case true =>
                  have h22' := of_decide_eq_true h22
                  simp only [y1, y2] at h22'
                  refine ⟨_, _, (outT_ok kTT_ok (natShut_t_form tos id flags part ttl proto f0 f1 f2 f3 t0 t1 t2 t3 opts body now) ?_).1⟩
                  repeat' (first | exact allNil | refine allCons ?_ ?_ | (with_reducible refine allRp _ ?_ ?_))
                  all_goals (first | (with_reducible assumption) | ((first | (with_reducible exact True.intro) | (with_reducible rfl) | (with_reducible assumption) | (exact decide_eq_false (by omega)) | (exact decide_eq_true (by omega)) | (exact ⟨trivial, by omega⟩) | (exact ⟨by omega, by omega⟩) | (exact ⟨by omega, by omega, by omega⟩) | (with_reducible exact id) | (intros; with_reducible assumption) | omega | (simp; done) | (simp; omega) | (simp (disch := first | omega | (simp; omega)) [str_toList, wu8, isB, lo8_raw, fd256, fd65536, w64, sameO_iff, take_len, List.length_take, List.length_drop]; done) | (simp (disch := first | omega | (simp; omega)) [str_toList, wu8, isB, lo8_raw, fd256, fd65536, w64, sameO_iff, take_len, List.length_take, List.length_drop]; omega))))
              case true =>
                have h21' := of_decide_eq_true h21
                refine ⟨_, _, (outT_ok kTT_ok (natShut_t_short tos id flags part ttl proto f0 f1 f2 f3 t0 t1 t2 t3 opts body now) ?_).1⟩
                repeat' (first | exact allNil | refine allCons ?_ ?_ | (with_reducible refine allRp _ ?_ ?_))
                all_goals (first | (with_reducible assumption) | ((first | (with_reducible exact True.intro) | (with_reducible rfl) | (with_reducible assumption) | (exact decide_eq_false (by omega)) | (exact decide_eq_true (by omega)) | (exact ⟨trivial, by omega⟩) | (exact ⟨by omega, by omega⟩) | (exact ⟨by omega, by omega, by omega⟩) | (with_reducible exact id) | (intros; with_reducible assumption) | omega | (simp; done) | (simp; omega) | (simp (disch := first | omega | (simp; omega)) [str_toList, wu8, isB, lo8_raw, fd256, fd65536, w64, sameO_iff, take_len, List.length_take, List.length_drop]; done) | (simp (disch := first | omega | (simp; omega)) [str_toList, wu8, isB, lo8_raw, fd256, fd65536, w64, sameO_iff, take_len, List.length_take, List.length_drop]; omega))))
          case true =>
            have h5' := eq_of_beq h5
            cases h25 : (decide ((↑(List.length body) : Int) < (8 : Int)))
            case false =>
              have h25' := of_decide_eq_false h25
              cases h26 : (decide ((↑(at16 body 4) : Int) > (↑(List.length body) : Int)))
              case false =>
                have h26' := of_decide_eq_false h26
                cases h27 : (decide ((↑(at16 body 4) : Int) < (8 : Int)))
                case false =>
                  have h27' := of_decide_eq_false h27
                  cases h28 : ((↑(at16 body 6) : Int) != (0 : Int))
                  case false =>
                    have h28' := bne_eq h28
                    refine ⟨_, _, (outT_ok kTT_ok (natShut_u_zero tos id flags part ttl proto f0 f1 f2 f3 t0 t1 t2 t3 opts body now) ?_).1⟩
                    repeat' (first | exact allNil | refine allCons ?_ ?_ | (with_reducible refine allRp _ ?_ ?_))
                    all_goals (first | (with_reducible assumption) | ((first | (with_reducible exact True.intro) | (with_reducible rfl) | (with_reducible assumption) | (exact decide_eq_false (by omega)) | (exact decide_eq_true (by omega)) | (exact ⟨trivial, by omega⟩) | (exact ⟨by omega, by omega⟩) | (exact ⟨by omega, by omega, by omega⟩) | (with_reducible exact id) | (intros; with_reducible assumption) | omega | (simp; done) | (simp; omega) | (simp (disch := first | omega | (simp; omega)) [str_toList, wu8, isB, lo8_raw, fd256, fd65536, w64, sameO_iff, take_len, List.length_take, List.length_drop]; done) | (simp (disch := first | omega | (simp; omega)) [str_toList, wu8, isB, lo8_raw, fd256, fd65536, w64, sameO_iff, take_len, List.length_take, List.length_drop]; omega))))
                  case true =>
                    have h28' := bne_ne h28
                    cases h29 : ((↑(ofL (List.take (12 + List.length (List.take (at16 body 4) body)) (UInt8.ofNat (Int.toNat f0) :: UInt8.ofNat (Int.toNat f1) :: UInt8.ofNat (Int.toNat f2) :: UInt8.ofNat (Int.toNat f3) :: UInt8.ofNat (Int.toNat t0) :: UInt8.ofNat (Int.toNat t1) :: UInt8.ofNat (Int.toNat t2) :: UInt8.ofNat (Int.toNat t3) :: (0 : UInt8) :: UInt8.ofNat (Int.toNat (IntKind.wrap IntKind.u8 proto)) :: UInt8.ofNat (Int.toNat (IntKind.wrap IntKind.u8 (Int.fdiv (↑(at16 body 4) : Int) (256 : Int)))) :: UInt8.ofNat (Int.toNat (IntKind.wrap IntKind.u8 (↑(at16 body 4) : Int))) :: List.take (at16 body 4) body))) : Int) != (0 : Int))
                    case false =>
                      have h29' := bne_eq h29
                      refine ⟨_, _, (outT_ok kTT_ok (natShut_u_ok tos id flags part ttl proto f0 f1 f2 f3 t0 t1 t2 t3 opts body now) ?_).1⟩
                      repeat' (first | exact allNil | refine allCons ?_ ?_ | (with_reducible refine allRp _ ?_ ?_))
                      all_goals (first | (with_reducible assumption) | ((first | (with_reducible exact True.intro) | (with_reducible rfl) | (with_reducible assumption) | (exact decide_eq_false (by omega)) | (exact decide_eq_true (by omega)) | (exact ⟨trivial, by omega⟩) | (exact ⟨by omega, by omega⟩) | (exact ⟨by omega, by omega, by omega⟩) | (with_reducible exact id) | (intros; with_reducible assumption) | omega | (simp; done) | (simp; omega) | (simp (disch := first | omega | (simp; omega)) [str_toList, wu8, isB, lo8_raw, fd256, fd65536, w64, sameO_iff, take_len, List.length_take, List.length_drop]; done) | (simp (disch := first | omega | (simp; omega)) [str_toList, wu8, isB, lo8_raw, fd256, fd65536, w64, sameO_iff, take_len, List.length_take, List.length_drop]; omega))))
                    case true =>
                      have h29' := bne_ne h29
                      refine ⟨_, _, (outT_ok kTT_ok (natShut_u_sum tos id flags part ttl proto f0 f1 f2 f3 t0 t1 t2 t3 opts body now) ?_).1⟩
                      repeat' (first | exact allNil | refine allCons ?_ ?_ | (with_reducible refine allRp _ ?_ ?_))
                      all_goals (first | (with_reducible assumption) | ((first | (with_reducible exact True.intro) | (with_reducible rfl) | (with_reducible assumption) | (exact decide_eq_false (by omega)) | (exact decide_eq_true (by omega)) | (exact ⟨trivial, by omega⟩) | (exact ⟨by omega, by omega⟩) | (exact ⟨by omega, by omega, by omega⟩) | (with_reducible exact id) | (intros; with_reducible assumption) | omega | (simp; done) | (simp; omega) | (simp (disch := first | omega | (simp; omega)) [str_toList, wu8, isB, lo8_raw, fd256, fd65536, w64, sameO_iff, take_len, List.length_take, List.length_drop]; done) | (simp (disch := first | omega | (simp; omega)) [str_toList, wu8, isB, lo8_raw, fd256, fd65536, w64, sameO_iff, take_len, List.length_take, List.length_drop]; omega))))
                case true =>
                  have h27' := of_decide_eq_true h27
                  refine ⟨_, _, (outT_ok kTT_ok (natShut_u_form tos id flags part ttl proto f0 f1 f2 f3 t0 t1 t2 t3 opts body now) ?_).1⟩
                  repeat' (first | exact allNil | refine allCons ?_ ?_ | (with_reducible refine allRp _ ?_ ?_))
                  all_goals (first | (with_reducible assumption) | ((first | (with_reducible exact True.intro) | (with_reducible rfl) | (with_reducible assumption) | (exact decide_eq_false (by omega)) | (exact decide_eq_true (by omega)) | (exact ⟨trivial, by omega⟩) | (exact ⟨by omega, by omega⟩) | (exact ⟨by omega, by omega, by omega⟩) | (with_reducible exact id) | (intros; with_reducible assumption) | omega | (simp; done) | (simp; omega) | (simp (disch := first | omega | (simp; omega)) [str_toList, wu8, isB, lo8_raw, fd256, fd65536, w64, sameO_iff, take_len, List.length_take, List.length_drop]; done) | (simp (disch := first | omega | (simp; omega)) [str_toList, wu8, isB, lo8_raw, fd256, fd65536, w64, sameO_iff, take_len, List.length_take, List.length_drop]; omega))))
              case true =>
                have h26' := of_decide_eq_true h26
                refine ⟨_, _, (outT_ok kTT_ok (natShut_u_long tos id flags part ttl proto f0 f1 f2 f3 t0 t1 t2 t3 opts body now) ?_).1⟩
                repeat' (first | exact allNil | refine allCons ?_ ?_ | (with_reducible refine allRp _ ?_ ?_))
                all_goals (first | (with_reducible assumption) | ((first | (with_reducible exact True.intro) | (with_reducible rfl) | (with_reducible assumption) | (exact decide_eq_false (by omega)) | (exact decide_eq_true (by omega)) | (exact ⟨trivial, by omega⟩) | (exact ⟨by omega, by omega⟩) | (exact ⟨by omega, by omega, by omega⟩) | (with_reducible exact id) | (intros; with_reducible assumption) | omega | (simp; done) | (simp; omega) | (simp (disch := first | omega | (simp; omega)) [str_toList, wu8, isB, lo8_raw, fd256, fd65536, w64, sameO_iff, take_len, List.length_take, List.length_drop]; done) | (simp (disch := first | omega | (simp; omega)) [str_toList, wu8, isB, lo8_raw, fd256, fd65536, w64, sameO_iff, take_len, List.length_take, List.length_drop]; omega))))
            case true =>
              have h25' := of_decide_eq_true h25
              refine ⟨_, _, (outT_ok kTT_ok (natShut_u_short tos id flags part ttl proto f0 f1 f2 f3 t0 t1 t2 t3 opts body now) ?_).1⟩
              repeat' (first | exact allNil | refine allCons ?_ ?_ | (with_reducible refine allRp _ ?_ ?_))
              all_goals (first | (with_reducible assumption) | ((first | (with_reducible exact True.intro) | (with_reducible rfl) | (with_reducible assumption) | (exact decide_eq_false (by omega)) | (exact decide_eq_true (by omega)) | (exact ⟨trivial, by omega⟩) | (exact ⟨by omega, by omega⟩) | (exact ⟨by omega, by omega, by omega⟩) | (with_reducible exact id) | (intros; with_reducible assumption) | omega | (simp; done) | (simp; omega) | (simp (disch := first | omega | (simp; omega)) [str_toList, wu8, isB, lo8_raw, fd256, fd65536, w64, sameO_iff, take_len, List.length_take, List.length_drop]; done) | (simp (disch := first | omega | (simp; omega)) [str_toList, wu8, isB, lo8_raw, fd256, fd65536, w64, sameO_iff, take_len, List.length_take, List.length_drop]; omega))))
        case true =>
          refine ⟨_, _, (outT_ok kTT_ok (natShut_frag tos id flags part ttl proto f0 f1 f2 f3 t0 t1 t2 t3 opts body now) ?_).1⟩
          repeat' (first | exact allNil | refine allCons ?_ ?_ | (with_reducible refine allRp _ ?_ ?_))
          all_goals (first | (with_reducible assumption) | ((first | (with_reducible exact True.intro) | (with_reducible rfl) | (with_reducible assumption) | (exact decide_eq_false (by omega)) | (exact decide_eq_true (by omega)) | (exact ⟨trivial, by omega⟩) | (exact ⟨by omega, by omega⟩) | (exact ⟨by omega, by omega, by omega⟩) | (with_reducible exact id) | (intros; with_reducible assumption) | omega | (simp; done) | (simp; omega) | (simp (disch := first | omega | (simp; omega)) [str_toList, wu8, isB, lo8_raw, fd256, fd65536, w64, sameO_iff, take_len, List.length_take, List.length_drop]; done) | (simp (disch := first | omega | (simp; omega)) [str_toList, wu8, isB, lo8_raw, fd256, fd65536, w64, sameO_iff, take_len, List.length_take, List.length_drop]; omega))))
      case true =>
        refine ⟨_, _, (outT_ok kTT_ok (natShut_to tos id flags part ttl proto f0 f1 f2 f3 t0 t1 t2 t3 opts body now) ?_).1⟩
        repeat' (first | exact allNil | refine allCons ?_ ?_ | (with_reducible refine allRp _ ?_ ?_))
        all_goals (first | (with_reducible assumption) | ((first | (with_reducible exact True.intro) | (with_reducible rfl) | (with_reducible assumption) | (exact decide_eq_false (by omega)) | (exact decide_eq_true (by omega)) | (exact ⟨trivial, by omega⟩) | (exact ⟨by omega, by omega⟩) | (exact ⟨by omega, by omega, by omega⟩) | (with_reducible exact id) | (intros; with_reducible assumption) | omega | (simp; done) | (simp; omega) | (simp (disch := first | omega | (simp; omega)) [str_toList, wu8, isB, lo8_raw, fd256, fd65536, w64, sameO_iff, take_len, List.length_take, List.length_drop]; done) | (simp (disch := first | omega | (simp; omega)) [str_toList, wu8, isB, lo8_raw, fd256, fd65536, w64, sameO_iff, take_len, List.length_take, List.length_drop]; omega))))
    case true =>
      have h2' := of_decide_eq_true h2
      refine ⟨_, _, (outT_ok kTT_ok (natShut_big2 tos id flags part ttl proto f0 f1 f2 f3 t0 t1 t2 t3 opts body now) ?_).1⟩
      repeat' (first | exact allNil | refine allCons ?_ ?_ | (with_reducible refine allRp _ ?_ ?_))
      all_goals (first | (with_reducible assumption) | ((first | (with_reducible exact True.intro) | (with_reducible rfl) | (with_reducible assumption) | (exact decide_eq_false (by omega)) | (exact decide_eq_true (by omega)) | (exact ⟨trivial, by omega⟩) | (exact ⟨by omega, by omega⟩) | (exact ⟨by omega, by omega, by omega⟩) | (with_reducible exact id) | (intros; with_reducible assumption) | omega | (simp; done) | (simp; omega) | (simp (disch := first | omega | (simp; omega)) [str_toList, wu8, isB, lo8_raw, fd256, fd65536, w64, sameO_iff, take_len, List.length_take, List.length_drop]; done) | (simp (disch := first | omega | (simp; omega)) [str_toList, wu8, isB, lo8_raw, fd256, fd65536, w64, sameO_iff, take_len, List.length_take, List.length_drop]; omega))))
  case true =>
    have h1' := of_decide_eq_true h1
    refine ⟨_, _, (outT_ok kTT_ok (natShut_big1 tos id flags part ttl proto f0 f1 f2 f3 t0 t1 t2 t3 opts body now) ?_).1⟩
    repeat' (first | exact allNil | refine allCons ?_ ?_ | (with_reducible refine allRp _ ?_ ?_))
    all_goals (first | (with_reducible assumption) | ((first | (with_reducible exact True.intro) | (with_reducible rfl) | (with_reducible assumption) | (exact decide_eq_false (by omega)) | (exact decide_eq_true (by omega)) | (exact ⟨trivial, by omega⟩) | (exact ⟨by omega, by omega⟩) | (exact ⟨by omega, by omega, by omega⟩) | (with_reducible exact id) | (intros; with_reducible assumption) | omega | (simp; done) | (simp; omega) | (simp (disch := first | omega | (simp; omega)) [str_toList, wu8, isB, lo8_raw, fd256, fd65536, w64, sameO_iff, take_len, List.length_take, List.length_drop]; done) | (simp (disch := first | omega | (simp; omega)) [str_toList, wu8, isB, lo8_raw, fd256, fd65536, w64, sameO_iff, take_len, List.length_take, List.length_drop]; omega))))
end Go.Proofs.Ytecmagdefllihaa.natShut
