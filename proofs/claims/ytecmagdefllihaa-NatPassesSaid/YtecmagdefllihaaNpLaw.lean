/- The law NatPasses, walked: whatever is given, it answers true. -/
import Derived.Test.YtecmagdefllihaaNpRun
import Derived.Test.YtecmagdefllihaaPv
namespace Go.Proofs.Ytecmagdefllihaa.natPasses
open Go.RowKit
set_option linter.unusedSimpArgs false

theorem bne_ne {a b : Int} (h : (a != b) = true) : a ≠ b := by simpa using h
theorem bne_eq {a b : Int} (h : (a != b) = false) : a = b := by simpa using h
theorem notd_false {p : Prop} [Decidable p] (h : (!decide p) = false) : p := by simpa using h
theorem notd_true {p : Prop} [Decidable p] (h : (!decide p) = true) : ¬ p := by simpa using h
theorem u64_nonneg (z : Int) : 0 ≤ IntKind.wrap IntKind.u64 z := by simp [IntKind.wrap, IntKind.bits, IntKind.signed]; omega
theorem bne_t {a : Int} (h : a ≠ 0) : (a != (0 : Int)) = true := by simpa using h
theorem passes0 : ∀ k : Nat, k < 72 → k / 8 ≠ 4 → k / 8 ≠ 5 → (List.set [(3 : UInt8), (9 : UInt8), (0 : UInt8), (53 : UInt8), (0 : UInt8), (9 : UInt8), (106 : UInt8), (137 : UInt8), (120 : UInt8)] (0 + Int.toNat (IntKind.wrap IntKind.i64 (Int.tdiv ((k : Nat) : Int) (8 : Int)))) (UInt8.ofNat (Int.toNat (bits BinOp.xor IntKind.u8 (↑(UInt8.toNat (List.getD [(3 : UInt8), (9 : UInt8), (0 : UInt8), (53 : UInt8), (0 : UInt8), (9 : UInt8), (106 : UInt8), (137 : UInt8), (120 : UInt8)] (0 + Int.toNat (IntKind.wrap IntKind.i64 (Int.tdiv ((k : Nat) : Int) (8 : Int)))) (0 : UInt8))) : Int) (IntKind.wrap IntKind.u8 ((1 : Int) * (2 : Int) ^ min (Int.toNat (IntKind.wrap IntKind.u64 (bits BinOp.and IntKind.i64 ((k : Nat) : Int) (7 : Int)))) 8)))))).length = 9 ∧ at16 (List.set [(3 : UInt8), (9 : UInt8), (0 : UInt8), (53 : UInt8), (0 : UInt8), (9 : UInt8), (106 : UInt8), (137 : UInt8), (120 : UInt8)] (0 + Int.toNat (IntKind.wrap IntKind.i64 (Int.tdiv ((k : Nat) : Int) (8 : Int)))) (UInt8.ofNat (Int.toNat (bits BinOp.xor IntKind.u8 (↑(UInt8.toNat (List.getD [(3 : UInt8), (9 : UInt8), (0 : UInt8), (53 : UInt8), (0 : UInt8), (9 : UInt8), (106 : UInt8), (137 : UInt8), (120 : UInt8)] (0 + Int.toNat (IntKind.wrap IntKind.i64 (Int.tdiv ((k : Nat) : Int) (8 : Int)))) (0 : UInt8))) : Int) (IntKind.wrap IntKind.u8 ((1 : Int) * (2 : Int) ^ min (Int.toNat (IntKind.wrap IntKind.u64 (bits BinOp.and IntKind.i64 ((k : Nat) : Int) (7 : Int)))) 8)))))) 4 = 9 ∧ at16 (List.set [(3 : UInt8), (9 : UInt8), (0 : UInt8), (53 : UInt8), (0 : UInt8), (9 : UInt8), (106 : UInt8), (137 : UInt8), (120 : UInt8)] (0 + Int.toNat (IntKind.wrap IntKind.i64 (Int.tdiv ((k : Nat) : Int) (8 : Int)))) (UInt8.ofNat (Int.toNat (bits BinOp.xor IntKind.u8 (↑(UInt8.toNat (List.getD [(3 : UInt8), (9 : UInt8), (0 : UInt8), (53 : UInt8), (0 : UInt8), (9 : UInt8), (106 : UInt8), (137 : UInt8), (120 : UInt8)] (0 + Int.toNat (IntKind.wrap IntKind.i64 (Int.tdiv ((k : Nat) : Int) (8 : Int)))) (0 : UInt8))) : Int) (IntKind.wrap IntKind.u8 ((1 : Int) * (2 : Int) ^ min (Int.toNat (IntKind.wrap IntKind.u64 (bits BinOp.and IntKind.i64 ((k : Nat) : Int) (7 : Int)))) 8)))))) 6 ≠ 0 ∧ ofL (List.take (12 + (9 : Nat)) ((10 : UInt8) :: (0 : UInt8) :: (0 : UInt8) :: (5 : UInt8) :: (8 : UInt8) :: (8 : UInt8) :: (8 : UInt8) :: (8 : UInt8) :: (0 : UInt8) :: (17 : UInt8) :: UInt8.ofNat (Int.toNat (IntKind.wrap IntKind.u8 (Int.fdiv (↑((9 : Nat)) : Int) (256 : Int)))) :: UInt8.ofNat (Int.toNat (IntKind.wrap IntKind.u8 (↑((9 : Nat)) : Int))) :: (List.set [(3 : UInt8), (9 : UInt8), (0 : UInt8), (53 : UInt8), (0 : UInt8), (9 : UInt8), (106 : UInt8), (137 : UInt8), (120 : UInt8)] (0 + Int.toNat (IntKind.wrap IntKind.i64 (Int.tdiv ((k : Nat) : Int) (8 : Int)))) (UInt8.ofNat (Int.toNat (bits BinOp.xor IntKind.u8 (↑(UInt8.toNat (List.getD [(3 : UInt8), (9 : UInt8), (0 : UInt8), (53 : UInt8), (0 : UInt8), (9 : UInt8), (106 : UInt8), (137 : UInt8), (120 : UInt8)] (0 + Int.toNat (IntKind.wrap IntKind.i64 (Int.tdiv ((k : Nat) : Int) (8 : Int)))) (0 : UInt8))) : Int) (IntKind.wrap IntKind.u8 ((1 : Int) * (2 : Int) ^ min (Int.toNat (IntKind.wrap IntKind.u64 (bits BinOp.and IntKind.i64 ((k : Nat) : Int) (7 : Int)))) 8)))))))) ≠ 0 := by decide +kernel
theorem passes (bit : Int) (h0 : 0 ≤ bit) (h1 : bit < 72) (h4 : bit / 8 ≠ 4) (h5 : bit / 8 ≠ 5) : ∃ c : List UInt8, List.set [(3 : UInt8), (9 : UInt8), (0 : UInt8), (53 : UInt8), (0 : UInt8), (9 : UInt8), (106 : UInt8), (137 : UInt8), (120 : UInt8)] (0 + Int.toNat (IntKind.wrap IntKind.i64 (Int.tdiv bit (8 : Int)))) (UInt8.ofNat (Int.toNat (bits BinOp.xor IntKind.u8 (↑(UInt8.toNat (List.getD [(3 : UInt8), (9 : UInt8), (0 : UInt8), (53 : UInt8), (0 : UInt8), (9 : UInt8), (106 : UInt8), (137 : UInt8), (120 : UInt8)] (0 + Int.toNat (IntKind.wrap IntKind.i64 (Int.tdiv bit (8 : Int)))) (0 : UInt8))) : Int) (IntKind.wrap IntKind.u8 ((1 : Int) * (2 : Int) ^ min (Int.toNat (IntKind.wrap IntKind.u64 (bits BinOp.and IntKind.i64 bit (7 : Int)))) 8))))) = c ∧ c.length = 9 ∧ List.take 9 c = c ∧ at16 c 4 = 9 ∧ at16 c 6 ≠ 0 ∧ ((ofL (List.take (12 + (9 : Nat)) ((10 : UInt8) :: (0 : UInt8) :: (0 : UInt8) :: (5 : UInt8) :: (8 : UInt8) :: (8 : UInt8) :: (8 : UInt8) :: (8 : UInt8) :: (0 : UInt8) :: (17 : UInt8) :: UInt8.ofNat (Int.toNat (IntKind.wrap IntKind.u8 (Int.fdiv (↑((9 : Nat)) : Int) (256 : Int)))) :: UInt8.ofNat (Int.toNat (IntKind.wrap IntKind.u8 (↑((9 : Nat)) : Int))) :: (c))) : Nat) : Int) ≠ 0 := by
  obtain ⟨k, rfl⟩ := Int.eq_ofNat_of_zero_le h0
  obtain ⟨p1, p2, p3, p4⟩ := passes0 k (by omega) (by omega) (by omega)
  exact ⟨_, rfl, p1, List.take_of_length_le (by omega), p2, p3, by omega⟩

set_option maxHeartbeats 40000000 in
set_option maxRecDepth 100000 in
theorem walk (tos id flags part ttl proto f0 f1 f2 f3 t0 t1 t2 t3 : Int) (opts body : List UInt8) (bit : Int) (hb : (0 ≤ f0 ∧ f0 < 256) ∧ (0 ≤ f1 ∧ f1 < 256) ∧ (0 ≤ f2 ∧ f2 < 256) ∧ (0 ≤ f3 ∧ f3 < 256) ∧ (0 ≤ t0 ∧ t0 < 256) ∧ (0 ≤ t1 ∧ t1 < 256) ∧ (0 ≤ t2 ∧ t2 < 256) ∧ (0 ≤ t3 ∧ t3 < 256)) :
    ∃ L' nx', ACall Try.prog 12 [.agg [.val (.int .i64 tos), .val (.int .i64 id), .val (.int .i64 flags), .val (.int .i64 part), .val (.int .i64 ttl), .val (.int .i64 proto), .val (.int .u8 f0), .val (.int .u8 f1), .val (.int .u8 f2), .val (.int .u8 f3), .val (.int .u8 t0), .val (.int .u8 t1), .val (.int .u8 t2), .val (.int .u8 t3), .bytes opts, .bytes body], .val (.int .i64 bit)] [] 0 (.val (.bool true)) L' nx' := by
  obtain ⟨bf0, bf1, bf2, bf3, bt0, bt1, bt2, bt3⟩ := hb
  cases h1 : (decide ((↑(List.length body) : Int) > (1400 : Int)))
  case false =>
    have h1' := of_decide_eq_false h1
    cases h2 : (decide ((↑(List.length opts) : Int) > (40 : Int)))
    case false =>
      have h2' := of_decide_eq_false h2
      cases h3 : (proto == (17 : Int))
      case false =>
        have h3' := ne_of_beq_false h3
        cases h4 : (proto == (6 : Int))
        case false =>
          have h4' := ne_of_beq_false h4
          cases h5 : (proto == (1 : Int))
          case false =>
            have h5' := ne_of_beq_false h5
            cases h6 : (!bif part == (0 : Int) then bits BinOp.and IntKind.i64 flags (1 : Int) == (0 : Int) else false)
            case false =>
              cases h7 : (decide (bit < (0 : Int)))
              case false =>
                have h7' := of_decide_eq_false h7
                cases h8 : (decide (bit ≥ (72 : Int)))
                case false =>
                  have h8' := of_decide_eq_false h8
                  cases h9 : (IntKind.wrap IntKind.i64 (Int.tdiv bit (8 : Int)) == (4 : Int))
                  case false =>
                    have h9' := ne_of_beq_false h9
                    rw [bit_q bit (by omega) (by omega)] at h9'
                    cases h10 : (IntKind.wrap IntKind.i64 (Int.tdiv bit (8 : Int)) == (5 : Int))
                    case false =>
                      have h10' := ne_of_beq_false h10
                      rw [bit_q bit (by omega) (by omega)] at h10'
                      obtain ⟨c, hc, l1, k1, n1, m1, s1⟩ := passes bit (by omega) (by omega) (by omega) (by omega)
                      refine ⟨_, _, (outS_ok kTT_ok (natPasses_ok tos id flags part ttl proto f0 f1 f2 f3 t0 t1 t2 t3 opts body bit) ?_).1⟩
                      repeat' (first | exact allNil | refine allCons ?_ ?_ | (with_reducible refine allRp _ ?_ ?_))
                      all_goals (first | (with_reducible assumption) | ((try simp only [hc, l1, k1, n1]) <;> (first | (with_reducible exact True.intro) | (with_reducible rfl) | (with_reducible assumption) | (exact bne_t s1) | (exact bne_t (by omega)) | (exact xor_bd _ _) | (exact u64_nonneg _) | (rw [bit_q bit (by omega) (by omega)]; omega) | (exact decide_eq_false (by omega)) | (exact decide_eq_true (by omega)) | (exact ⟨trivial, by omega⟩) | (exact ⟨by omega, by omega⟩) | (exact ⟨by omega, by omega, by omega⟩) | (with_reducible exact id) | (intros; with_reducible assumption) | omega | (simp; done) | (simp; omega) | (simp (disch := first | omega | (simp; omega)) [str_toList, wu8, isB, lo8_raw, fd256, fd65536, w64, sameO_iff, take_len, List.length_take, List.length_drop]; done) | (simp (disch := first | omega | (simp; omega)) [str_toList, wu8, isB, lo8_raw, fd256, fd65536, w64, sameO_iff, take_len, List.length_take, List.length_drop]; omega))))
                    case true =>
                      have h10' := eq_of_beq h10
                      rw [bit_q bit (by omega) (by omega)] at h10'
                      refine ⟨_, _, (outT_ok kTT_ok (natPasses_b5 tos id flags part ttl proto f0 f1 f2 f3 t0 t1 t2 t3 opts body bit) ?_).1⟩
                      repeat' (first | exact allNil | refine allCons ?_ ?_ | (with_reducible refine allRp _ ?_ ?_))
                      all_goals (first | (with_reducible assumption) | ((first | (with_reducible exact True.intro) | (with_reducible rfl) | (with_reducible assumption) | (exact decide_eq_false (by omega)) | (exact decide_eq_true (by omega)) | (exact ⟨trivial, by omega⟩) | (exact ⟨by omega, by omega⟩) | (exact ⟨by omega, by omega, by omega⟩) | (with_reducible exact id) | (intros; with_reducible assumption) | omega | (simp; done) | (simp; omega) | (simp (disch := first | omega | (simp; omega)) [str_toList, wu8, isB, lo8_raw, fd256, fd65536, w64, sameO_iff, take_len, List.length_take, List.length_drop]; done) | (simp (disch := first | omega | (simp; omega)) [str_toList, wu8, isB, lo8_raw, fd256, fd65536, w64, sameO_iff, take_len, List.length_take, List.length_drop]; omega))))
                  case true =>
                    have h9' := eq_of_beq h9
                    rw [bit_q bit (by omega) (by omega)] at h9'
                    refine ⟨_, _, (outT_ok kTT_ok (natPasses_b4 tos id flags part ttl proto f0 f1 f2 f3 t0 t1 t2 t3 opts body bit) ?_).1⟩
                    repeat' (first | exact allNil | refine allCons ?_ ?_ | (with_reducible refine allRp _ ?_ ?_))
                    all_goals (first | (with_reducible assumption) | ((first | (with_reducible exact True.intro) | (with_reducible rfl) | (with_reducible assumption) | (exact decide_eq_false (by omega)) | (exact decide_eq_true (by omega)) | (exact ⟨trivial, by omega⟩) | (exact ⟨by omega, by omega⟩) | (exact ⟨by omega, by omega, by omega⟩) | (with_reducible exact id) | (intros; with_reducible assumption) | omega | (simp; done) | (simp; omega) | (simp (disch := first | omega | (simp; omega)) [str_toList, wu8, isB, lo8_raw, fd256, fd65536, w64, sameO_iff, take_len, List.length_take, List.length_drop]; done) | (simp (disch := first | omega | (simp; omega)) [str_toList, wu8, isB, lo8_raw, fd256, fd65536, w64, sameO_iff, take_len, List.length_take, List.length_drop]; omega))))
                case true =>
                  have h8' := of_decide_eq_true h8
                  refine ⟨_, _, (outT_ok kTT_ok (natPasses_b1 tos id flags part ttl proto f0 f1 f2 f3 t0 t1 t2 t3 opts body bit) ?_).1⟩
                  repeat' (first | exact allNil | refine allCons ?_ ?_ | (with_reducible refine allRp _ ?_ ?_))
                  all_goals (first | (with_reducible assumption) | ((first | (with_reducible exact True.intro) | (with_reducible rfl) | (with_reducible assumption) | (exact decide_eq_false (by omega)) | (exact decide_eq_true (by omega)) | (exact ⟨trivial, by omega⟩) | (exact ⟨by omega, by omega⟩) | (exact ⟨by omega, by omega, by omega⟩) | (with_reducible exact id) | (intros; with_reducible assumption) | omega | (simp; done) | (simp; omega) | (simp (disch := first | omega | (simp; omega)) [str_toList, wu8, isB, lo8_raw, fd256, fd65536, w64, sameO_iff, take_len, List.length_take, List.length_drop]; done) | (simp (disch := first | omega | (simp; omega)) [str_toList, wu8, isB, lo8_raw, fd256, fd65536, w64, sameO_iff, take_len, List.length_take, List.length_drop]; omega))))
              case true =>
                have h7' := of_decide_eq_true h7
                refine ⟨_, _, (outT_ok kTT_ok (natPasses_b0 tos id flags part ttl proto f0 f1 f2 f3 t0 t1 t2 t3 opts body bit) ?_).1⟩
                repeat' (first | exact allNil | refine allCons ?_ ?_ | (with_reducible refine allRp _ ?_ ?_))
                all_goals (first | (with_reducible assumption) | ((first | (with_reducible exact True.intro) | (with_reducible rfl) | (with_reducible assumption) | (exact decide_eq_false (by omega)) | (exact decide_eq_true (by omega)) | (exact ⟨trivial, by omega⟩) | (exact ⟨by omega, by omega⟩) | (exact ⟨by omega, by omega, by omega⟩) | (with_reducible exact id) | (intros; with_reducible assumption) | omega | (simp; done) | (simp; omega) | (simp (disch := first | omega | (simp; omega)) [str_toList, wu8, isB, lo8_raw, fd256, fd65536, w64, sameO_iff, take_len, List.length_take, List.length_drop]; done) | (simp (disch := first | omega | (simp; omega)) [str_toList, wu8, isB, lo8_raw, fd256, fd65536, w64, sameO_iff, take_len, List.length_take, List.length_drop]; omega))))
            case true =>
              cases h11 : (decide (bit < (0 : Int)))
              case false =>
                have h11' := of_decide_eq_false h11
                cases h12 : (decide (bit ≥ (72 : Int)))
                case false =>
                  have h12' := of_decide_eq_false h12
                  cases h13 : (IntKind.wrap IntKind.i64 (Int.tdiv bit (8 : Int)) == (4 : Int))
                  case false =>
                    have h13' := ne_of_beq_false h13
                    rw [bit_q bit (by omega) (by omega)] at h13'
                    cases h14 : (IntKind.wrap IntKind.i64 (Int.tdiv bit (8 : Int)) == (5 : Int))
                    case false =>
                      have h14' := ne_of_beq_false h14
                      rw [bit_q bit (by omega) (by omega)] at h14'
                      obtain ⟨c, hc, l1, k1, n1, m1, s1⟩ := passes bit (by omega) (by omega) (by omega) (by omega)
                      refine ⟨_, _, (outS_ok kTT_ok (natPasses_okf tos id flags part ttl proto f0 f1 f2 f3 t0 t1 t2 t3 opts body bit) ?_).1⟩
                      repeat' (first | exact allNil | refine allCons ?_ ?_ | (with_reducible refine allRp _ ?_ ?_))
                      all_goals (first | (with_reducible assumption) | ((try simp only [hc, l1, k1, n1]) <;> (first | (with_reducible exact True.intro) | (with_reducible rfl) | (with_reducible assumption) | (exact bne_t s1) | (exact bne_t (by omega)) | (exact xor_bd _ _) | (exact u64_nonneg _) | (rw [bit_q bit (by omega) (by omega)]; omega) | (exact decide_eq_false (by omega)) | (exact decide_eq_true (by omega)) | (exact ⟨trivial, by omega⟩) | (exact ⟨by omega, by omega⟩) | (exact ⟨by omega, by omega, by omega⟩) | (with_reducible exact id) | (intros; with_reducible assumption) | omega | (simp; done) | (simp; omega) | (simp (disch := first | omega | (simp; omega)) [str_toList, wu8, isB, lo8_raw, fd256, fd65536, w64, sameO_iff, take_len, List.length_take, List.length_drop]; done) | (simp (disch := first | omega | (simp; omega)) [str_toList, wu8, isB, lo8_raw, fd256, fd65536, w64, sameO_iff, take_len, List.length_take, List.length_drop]; omega))))
                    case true =>
                      have h14' := eq_of_beq h14
                      rw [bit_q bit (by omega) (by omega)] at h14'
                      refine ⟨_, _, (outT_ok kTT_ok (natPasses_f5 tos id flags part ttl proto f0 f1 f2 f3 t0 t1 t2 t3 opts body bit) ?_).1⟩
                      repeat' (first | exact allNil | refine allCons ?_ ?_ | (with_reducible refine allRp _ ?_ ?_))
                      all_goals (first | (with_reducible assumption) | ((first | (with_reducible exact True.intro) | (with_reducible rfl) | (with_reducible assumption) | (exact decide_eq_false (by omega)) | (exact decide_eq_true (by omega)) | (exact ⟨trivial, by omega⟩) | (exact ⟨by omega, by omega⟩) | (exact ⟨by omega, by omega, by omega⟩) | (with_reducible exact id) | (intros; with_reducible assumption) | omega | (simp; done) | (simp; omega) | (simp (disch := first | omega | (simp; omega)) [str_toList, wu8, isB, lo8_raw, fd256, fd65536, w64, sameO_iff, take_len, List.length_take, List.length_drop]; done) | (simp (disch := first | omega | (simp; omega)) [str_toList, wu8, isB, lo8_raw, fd256, fd65536, w64, sameO_iff, take_len, List.length_take, List.length_drop]; omega))))
                  case true =>
                    have h13' := eq_of_beq h13
                    rw [bit_q bit (by omega) (by omega)] at h13'
                    refine ⟨_, _, (outT_ok kTT_ok (natPasses_f4 tos id flags part ttl proto f0 f1 f2 f3 t0 t1 t2 t3 opts body bit) ?_).1⟩
                    repeat' (first | exact allNil | refine allCons ?_ ?_ | (with_reducible refine allRp _ ?_ ?_))
                    all_goals (first | (with_reducible assumption) | ((first | (with_reducible exact True.intro) | (with_reducible rfl) | (with_reducible assumption) | (exact decide_eq_false (by omega)) | (exact decide_eq_true (by omega)) | (exact ⟨trivial, by omega⟩) | (exact ⟨by omega, by omega⟩) | (exact ⟨by omega, by omega, by omega⟩) | (with_reducible exact id) | (intros; with_reducible assumption) | omega | (simp; done) | (simp; omega) | (simp (disch := first | omega | (simp; omega)) [str_toList, wu8, isB, lo8_raw, fd256, fd65536, w64, sameO_iff, take_len, List.length_take, List.length_drop]; done) | (simp (disch := first | omega | (simp; omega)) [str_toList, wu8, isB, lo8_raw, fd256, fd65536, w64, sameO_iff, take_len, List.length_take, List.length_drop]; omega))))
                case true =>
                  have h12' := of_decide_eq_true h12
                  refine ⟨_, _, (outT_ok kTT_ok (natPasses_f1 tos id flags part ttl proto f0 f1 f2 f3 t0 t1 t2 t3 opts body bit) ?_).1⟩
                  repeat' (first | exact allNil | refine allCons ?_ ?_ | (with_reducible refine allRp _ ?_ ?_))
                  all_goals (first | (with_reducible assumption) | ((first | (with_reducible exact True.intro) | (with_reducible rfl) | (with_reducible assumption) | (exact decide_eq_false (by omega)) | (exact decide_eq_true (by omega)) | (exact ⟨trivial, by omega⟩) | (exact ⟨by omega, by omega⟩) | (exact ⟨by omega, by omega, by omega⟩) | (with_reducible exact id) | (intros; with_reducible assumption) | omega | (simp; done) | (simp; omega) | (simp (disch := first | omega | (simp; omega)) [str_toList, wu8, isB, lo8_raw, fd256, fd65536, w64, sameO_iff, take_len, List.length_take, List.length_drop]; done) | (simp (disch := first | omega | (simp; omega)) [str_toList, wu8, isB, lo8_raw, fd256, fd65536, w64, sameO_iff, take_len, List.length_take, List.length_drop]; omega))))
              case true =>
                have h11' := of_decide_eq_true h11
                refine ⟨_, _, (outT_ok kTT_ok (natPasses_f0 tos id flags part ttl proto f0 f1 f2 f3 t0 t1 t2 t3 opts body bit) ?_).1⟩
                repeat' (first | exact allNil | refine allCons ?_ ?_ | (with_reducible refine allRp _ ?_ ?_))
                all_goals (first | (with_reducible assumption) | ((first | (with_reducible exact True.intro) | (with_reducible rfl) | (with_reducible assumption) | (exact decide_eq_false (by omega)) | (exact decide_eq_true (by omega)) | (exact ⟨trivial, by omega⟩) | (exact ⟨by omega, by omega⟩) | (exact ⟨by omega, by omega, by omega⟩) | (with_reducible exact id) | (intros; with_reducible assumption) | omega | (simp; done) | (simp; omega) | (simp (disch := first | omega | (simp; omega)) [str_toList, wu8, isB, lo8_raw, fd256, fd65536, w64, sameO_iff, take_len, List.length_take, List.length_drop]; done) | (simp (disch := first | omega | (simp; omega)) [str_toList, wu8, isB, lo8_raw, fd256, fd65536, w64, sameO_iff, take_len, List.length_take, List.length_drop]; omega))))
          case true =>
            have h5' := eq_of_beq h5
            refine ⟨_, _, (outT_ok kTT_ok (natPasses_p1 tos id flags part ttl proto f0 f1 f2 f3 t0 t1 t2 t3 opts body bit) ?_).1⟩
            repeat' (first | exact allNil | refine allCons ?_ ?_ | (with_reducible refine allRp _ ?_ ?_))
            all_goals (first | (with_reducible assumption) | ((first | (with_reducible exact True.intro) | (with_reducible rfl) | (with_reducible assumption) | (exact decide_eq_false (by omega)) | (exact decide_eq_true (by omega)) | (exact ⟨trivial, by omega⟩) | (exact ⟨by omega, by omega⟩) | (exact ⟨by omega, by omega, by omega⟩) | (with_reducible exact id) | (intros; with_reducible assumption) | omega | (simp; done) | (simp; omega) | (simp (disch := first | omega | (simp; omega)) [str_toList, wu8, isB, lo8_raw, fd256, fd65536, w64, sameO_iff, take_len, List.length_take, List.length_drop]; done) | (simp (disch := first | omega | (simp; omega)) [str_toList, wu8, isB, lo8_raw, fd256, fd65536, w64, sameO_iff, take_len, List.length_take, List.length_drop]; omega))))
        case true =>
          have h4' := eq_of_beq h4
          refine ⟨_, _, (outT_ok kTT_ok (natPasses_p6 tos id flags part ttl proto f0 f1 f2 f3 t0 t1 t2 t3 opts body bit) ?_).1⟩
          repeat' (first | exact allNil | refine allCons ?_ ?_ | (with_reducible refine allRp _ ?_ ?_))
          all_goals (first | (with_reducible assumption) | ((first | (with_reducible exact True.intro) | (with_reducible rfl) | (with_reducible assumption) | (exact decide_eq_false (by omega)) | (exact decide_eq_true (by omega)) | (exact ⟨trivial, by omega⟩) | (exact ⟨by omega, by omega⟩) | (exact ⟨by omega, by omega, by omega⟩) | (with_reducible exact id) | (intros; with_reducible assumption) | omega | (simp; done) | (simp; omega) | (simp (disch := first | omega | (simp; omega)) [str_toList, wu8, isB, lo8_raw, fd256, fd65536, w64, sameO_iff, take_len, List.length_take, List.length_drop]; done) | (simp (disch := first | omega | (simp; omega)) [str_toList, wu8, isB, lo8_raw, fd256, fd65536, w64, sameO_iff, take_len, List.length_take, List.length_drop]; omega))))
      case true =>
        have h3' := eq_of_beq h3
        refine ⟨_, _, (outT_ok kTT_ok (natPasses_p17 tos id flags part ttl proto f0 f1 f2 f3 t0 t1 t2 t3 opts body bit) ?_).1⟩
        repeat' (first | exact allNil | refine allCons ?_ ?_ | (with_reducible refine allRp _ ?_ ?_))
        all_goals (first | (with_reducible assumption) | ((first | (with_reducible exact True.intro) | (with_reducible rfl) | (with_reducible assumption) | (exact decide_eq_false (by omega)) | (exact decide_eq_true (by omega)) | (exact ⟨trivial, by omega⟩) | (exact ⟨by omega, by omega⟩) | (exact ⟨by omega, by omega, by omega⟩) | (with_reducible exact id) | (intros; with_reducible assumption) | omega | (simp; done) | (simp; omega) | (simp (disch := first | omega | (simp; omega)) [str_toList, wu8, isB, lo8_raw, fd256, fd65536, w64, sameO_iff, take_len, List.length_take, List.length_drop]; done) | (simp (disch := first | omega | (simp; omega)) [str_toList, wu8, isB, lo8_raw, fd256, fd65536, w64, sameO_iff, take_len, List.length_take, List.length_drop]; omega))))
    case true =>
      have h2' := of_decide_eq_true h2
      refine ⟨_, _, (outT_ok kTT_ok (natPasses_big2 tos id flags part ttl proto f0 f1 f2 f3 t0 t1 t2 t3 opts body bit) ?_).1⟩
      repeat' (first | exact allNil | refine allCons ?_ ?_ | (with_reducible refine allRp _ ?_ ?_))
      all_goals (first | (with_reducible assumption) | ((first | (with_reducible exact True.intro) | (with_reducible rfl) | (with_reducible assumption) | (exact decide_eq_false (by omega)) | (exact decide_eq_true (by omega)) | (exact ⟨trivial, by omega⟩) | (exact ⟨by omega, by omega⟩) | (exact ⟨by omega, by omega, by omega⟩) | (with_reducible exact id) | (intros; with_reducible assumption) | omega | (simp; done) | (simp; omega) | (simp (disch := first | omega | (simp; omega)) [str_toList, wu8, isB, lo8_raw, fd256, fd65536, w64, sameO_iff, take_len, List.length_take, List.length_drop]; done) | (simp (disch := first | omega | (simp; omega)) [str_toList, wu8, isB, lo8_raw, fd256, fd65536, w64, sameO_iff, take_len, List.length_take, List.length_drop]; omega))))
  case true =>
    have h1' := of_decide_eq_true h1
    refine ⟨_, _, (outT_ok kTT_ok (natPasses_big1 tos id flags part ttl proto f0 f1 f2 f3 t0 t1 t2 t3 opts body bit) ?_).1⟩
    repeat' (first | exact allNil | refine allCons ?_ ?_ | (with_reducible refine allRp _ ?_ ?_))
    all_goals (first | (with_reducible assumption) | ((first | (with_reducible exact True.intro) | (with_reducible rfl) | (with_reducible assumption) | (exact decide_eq_false (by omega)) | (exact decide_eq_true (by omega)) | (exact ⟨trivial, by omega⟩) | (exact ⟨by omega, by omega⟩) | (exact ⟨by omega, by omega, by omega⟩) | (with_reducible exact id) | (intros; with_reducible assumption) | omega | (simp; done) | (simp; omega) | (simp (disch := first | omega | (simp; omega)) [str_toList, wu8, isB, lo8_raw, fd256, fd65536, w64, sameO_iff, take_len, List.length_take, List.length_drop]; done) | (simp (disch := first | omega | (simp; omega)) [str_toList, wu8, isB, lo8_raw, fd256, fd65536, w64, sameO_iff, take_len, List.length_take, List.length_drop]; omega))))
end Go.Proofs.Ytecmagdefllihaa.natPasses
