/- The law TopDead, walked: whatever is given, it answers true. -/
import Derived.Test.YtbpofglponmpnaaGreatDoorMra
import Derived.Test.YtbpofglponmpnaaGreatDoorMrf
import Derived.Test.YtbpofglponmpnaaGreatDoorMrb
import Derived.Test.YtbpofglponmpnaaGreatDoorMrc
import Derived.Test.YtbpofglponmpnaaGreatDoorMrd
import Derived.Test.YtbpofglponmpnaaGreatDoorMre
import Derived.Test.YtbpofglponmpnaaGreatDoorOp
namespace Go.Proofs.YtbpofglponmpnaaGreatDoor.topDead
open Go.RowKit
set_option linter.unusedSimpArgs false

theorem boolCases {G : Prop} (c : Bool) (hf : c = false → G) (ht : c = true → G) : G := by
  cases h : c
  · exact hf h
  · exact ht h
theorem bne_ne {a b : Int} (h : (a != b) = true) : a ≠ b := by simpa using h
theorem bne_eq {a b : Int} (h : (a != b) = false) : a = b := by simpa using h
theorem notd_false {p : Prop} [Decidable p] (h : (!decide p) = false) : p := by simpa using h
theorem notd_true {p : Prop} [Decidable p] (h : (!decide p) = true) : ¬ p := by simpa using h
theorem wu8 (z : Int) : IntKind.u8.wrap z = z % 256 := by simp [IntKind.wrap, IntKind.bits, IntKind.signed]
theorem ip8 (x : UInt8) : IntKind.wrap .u8 (Int.fdiv (↑(((UInt8.toNat (8 : UInt8) * 256 + UInt8.toNat (8 : UInt8)) * 256 + UInt8.toNat (4 : UInt8)) * 256 + UInt8.toNat x) : Int) (16777216 : Int)) = 8 := by
  have := x.toNat_lt
  have e8 : UInt8.toNat (8 : UInt8) = 8 := rfl
  have e4 : UInt8.toNat (4 : UInt8) = 4 := rfl
  rw [wu8, Int.fdiv_eq_ediv_of_nonneg _ (by decide), e8, e4]
  omega
theorem and63b (z : Int) : (!(decide ((0 : Int) ≤ bits BinOp.and IntKind.i64 z (63 : Int)) && decide (bits BinOp.and IntKind.i64 z (63 : Int) ≤ (63 : Int)))) = false := by
  rw [and_63]
  have h1 : decide ((0 : Int) ≤ z % 64) = true := decide_eq_true (by omega)
  have h2 : decide (z % 64 ≤ (63 : Int)) = true := decide_eq_true (by omega)
  rw [h1, h2]
  rfl
theorem and255b (z : Int) : (!(decide ((0 : Int) ≤ bits BinOp.and IntKind.i64 z (255 : Int)) && decide (bits BinOp.and IntKind.i64 z (255 : Int) ≤ (255 : Int)))) = false := by
  rw [show bits BinOp.and IntKind.i64 z 255 = z % 256 from and_mask 8 256 z (by omega) rfl]
  have h1 : decide ((0 : Int) ≤ z % 256) = true := decide_eq_true (by omega)
  have h2 : decide (z % 256 ≤ (255 : Int)) = true := decide_eq_true (by omega)
  rw [h1, h2]
  rfl
theorem and65535b (z : Int) : (!(decide ((0 : Int) ≤ bits BinOp.and IntKind.i64 z (65535 : Int)) && decide (bits BinOp.and IntKind.i64 z (65535 : Int) ≤ (65535 : Int)))) = false := by
  rw [and_65535]
  have h1 : decide ((0 : Int) ≤ z % 65536) = true := decide_eq_true (by omega)
  have h2 : decide (z % 65536 ≤ (65535 : Int)) = true := decide_eq_true (by omega)
  rw [h1, h2]
  rfl
theorem isB (z : Int) : isByteAV (.val (.int .u8 z)) ↔ (0 ≤ z ∧ z < 256) := Iff.rfl
theorem mem_two {P : AV → Prop} {a b : AV} (ha : P a) (hb : P b) : ∀ x, x ∈ [a, b] → P x := by
  intro x hx
  simp only [List.mem_cons, List.not_mem_nil, or_false] at hx
  rcases hx with rfl | rfl
  · exact ha
  · exact hb
theorem mem_four {P : AV → Prop} {a b c d : AV} (ha : P a) (hb : P b) (hc : P c) (hd : P d) : ∀ x, x ∈ [a, b, c, d] → P x := by
  intro x hx
  simp only [List.mem_cons, List.not_mem_nil, or_false] at hx
  rcases hx with rfl | rfl | rfl | rfl
  · exact ha
  · exact hb
  · exact hc
  · exact hd
theorem byteC (n : Int) (h : 0 ≤ n ∧ n < 256) : isByteAV (.val (.int .u8 n)) := h
theorem byteW (z : Int) : isByteAV (.val (.int .u8 (IntKind.wrap .u8 z))) := by rw [isB, wu8]; omega
theorem mem_one {P : AV → Prop} {a : AV} (h : P a) : ∀ x, x ∈ [a] → P x := by
  intro x hx
  simp only [List.mem_cons, List.not_mem_nil, or_false] at hx
  rw [hx]; exact h
set_option maxHeartbeats 40000000 in
set_option maxRecDepth 100000 in
theorem way4 (n v p q : Int) (draw secs : Int) (b : List UInt8) (hb : decide ((↑(List.length b) : Int) > (1600 : Int)) = false) :
    ∃ L' nx', ACall Tryz.prog 3 [.agg [.val (.int .i64 4), .val (.int .i64 n), .val (.int .i64 v), .val (.int .i64 p), .val (.int .i64 q), .val (.int .u32 draw), .val (.int .u32 secs), .bytes b]] [] 0 (.val (.bool true)) L' nx' := by
  obtain ⟨s1, hs1⟩ : ∃ s : Int, (↑(ofL [192, 168, 1, 77, 8, 8, 4, UInt8.ofNat (Int.toNat (IntKind.wrap IntKind.u8 v)), 0, 17, 0, 12, UInt8.ofNat (Int.toNat (IntKind.wrap IntKind.u8 (Int.fdiv p (256 : Int)))), UInt8.ofNat (Int.toNat (IntKind.wrap IntKind.u8 p)), UInt8.ofNat (Int.toNat (IntKind.wrap IntKind.u8 (Int.fdiv q (256 : Int)))), UInt8.ofNat (Int.toNat (IntKind.wrap IntKind.u8 q)), 0, 12, 0, 0, 100, 97, 116, 97]) : Int) = s := ⟨_, rfl⟩
  obtain ⟨s2, hs2⟩ : ∃ s : Int, (↑(ofL [69, 0, 0, 32, 0, 0, 0, 0, 64, 17, 0, 0, 192, 168, 1, 77, 8, 8, 4, UInt8.ofNat (Int.toNat (IntKind.wrap IntKind.u8 v))]) : Int) = s := ⟨_, rfl⟩
  refine boolCases (!(decide ((0 : Int) ≤ p) && decide (p ≤ (65535 : Int)))) (fun h1 => ?a1) (fun h1 => ?b1)
  case' a1 =>
    refine boolCases (!(decide ((0 : Int) ≤ q) && decide (q ≤ (65535 : Int)))) (fun h2 => ?a2) (fun h2 => ?b2)
    case' a2 =>
      refine boolCases (s1 == (0 : Int)) (fun h3 => ?a3) (fun h3 => ?b3)
      case' a3 =>
        have h3' := ne_of_beq_false h3
        refine boolCases (!ofL [69, 0, 0, 32, 0, 0, 0, 0, 64, 17, UInt8.ofNat (Int.toNat (IntKind.wrap IntKind.u8 (Int.fdiv s2 (256 : Int)))), UInt8.ofNat (Int.toNat (IntKind.wrap IntKind.u8 s2)), 192, 168, 1, 77, 8, 8, 4, UInt8.ofNat (Int.toNat (IntKind.wrap IntKind.u8 v))] == 0) (fun h4 => ?a4) (fun h4 => ?b4)
        case' a4 =>
          refine boolCases ((↑(UInt8.toNat (UInt8.ofNat (Int.toNat (IntKind.wrap IntKind.u8 (Int.fdiv s1 (256 : Int))))) * 256 + UInt8.toNat (UInt8.ofNat (Int.toNat (IntKind.wrap IntKind.u8 s1)))) : Int) != (0 : Int)) (fun h5 => ?a5) (fun h5 => ?b5)
          case' a5 =>
            have h5' := bne_eq h5
            refine boolCases ((↑(UInt8.toNat (UInt8.ofNat (Int.toNat (IntKind.wrap IntKind.u8 (Int.fdiv q (256 : Int))))) * 256 + UInt8.toNat (UInt8.ofNat (Int.toNat (IntKind.wrap IntKind.u8 q)))) : Int) == (67 : Int)) (fun h6 => ?a6) (fun h6 => ?b6)
            case' a6 =>
              have h6' := ne_of_beq_false h6
              refine ⟨_, _, (outT_ok (kDead_ok s1 s2) (topDead_4_m_ok n v p q draw secs b s1 s2) ?_).1⟩
            case' b6 =>
              have h6' := eq_of_beq h6
              refine ⟨_, _, (outT_ok (kDead_ok s1 s2) (topDead_4_m_ok67 n v p q draw secs b s1 s2) ?_).1⟩
          case' b5 =>
            have h5' := bne_ne h5
            refine boolCases ((↑(ofL (psB 192 168 1 77 8 8 4 (UInt8.ofNat (Int.toNat (IntKind.wrap IntKind.u8 v))) [0, 17, 0, 12, UInt8.ofNat (Int.toNat (IntKind.wrap IntKind.u8 (Int.fdiv p (256 : Int)))), UInt8.ofNat (Int.toNat (IntKind.wrap IntKind.u8 p)), UInt8.ofNat (Int.toNat (IntKind.wrap IntKind.u8 (Int.fdiv q (256 : Int)))), UInt8.ofNat (Int.toNat (IntKind.wrap IntKind.u8 q)), 0, 12, UInt8.ofNat (Int.toNat (IntKind.wrap IntKind.u8 (Int.fdiv s1 (256 : Int)))), UInt8.ofNat (Int.toNat (IntKind.wrap IntKind.u8 s1)), 100, 97, 116, 97])) : Int) != (0 : Int)) (fun h7 => ?a7) (fun h7 => ?b7)
            case' a7 =>
              have h7' := bne_eq h7
              refine boolCases ((↑(UInt8.toNat (UInt8.ofNat (Int.toNat (IntKind.wrap IntKind.u8 (Int.fdiv q (256 : Int))))) * 256 + UInt8.toNat (UInt8.ofNat (Int.toNat (IntKind.wrap IntKind.u8 q)))) : Int) == (67 : Int)) (fun h8 => ?a8) (fun h8 => ?b8)
              case' a8 =>
                have h8' := ne_of_beq_false h8
                refine ⟨_, _, (outT_ok (kDead_ok s1 s2) (topDead_4_n_ok n v p q draw secs b s1 s2) ?_).1⟩
              case' b8 =>
                have h8' := eq_of_beq h8
                refine ⟨_, _, (outT_ok (kDead_ok s1 s2) (topDead_4_n_ok67 n v p q draw secs b s1 s2) ?_).1⟩
            case' b7 =>
              have h7' := bne_ne h7
              refine ⟨_, _, (outT_ok (kDead_ok s1 s2) (topDead_4_n_esum n v p q draw secs b s1 s2) ?_).1⟩
        case' b4 =>
          refine ⟨_, _, (outT_ok (kDead_ok s1 s2) (topDead_4_n_hbad n v p q draw secs b s1 s2) ?_).1⟩
      case' b3 =>
        have h3' := eq_of_beq h3
        refine boolCases (!ofL [69, 0, 0, 32, 0, 0, 0, 0, 64, 17, UInt8.ofNat (Int.toNat (IntKind.wrap IntKind.u8 (Int.fdiv s2 (256 : Int)))), UInt8.ofNat (Int.toNat (IntKind.wrap IntKind.u8 s2)), 192, 168, 1, 77, 8, 8, 4, UInt8.ofNat (Int.toNat (IntKind.wrap IntKind.u8 v))] == 0) (fun h9 => ?a9) (fun h9 => ?b9)
        case' a9 =>
          refine boolCases ((↑(ofL (psB 192 168 1 77 8 8 4 (UInt8.ofNat (Int.toNat (IntKind.wrap IntKind.u8 v))) [0, 17, 0, 12, UInt8.ofNat (Int.toNat (IntKind.wrap IntKind.u8 (Int.fdiv p (256 : Int)))), UInt8.ofNat (Int.toNat (IntKind.wrap IntKind.u8 p)), UInt8.ofNat (Int.toNat (IntKind.wrap IntKind.u8 (Int.fdiv q (256 : Int)))), UInt8.ofNat (Int.toNat (IntKind.wrap IntKind.u8 q)), 0, 12, 255, 255, 100, 97, 116, 97])) : Int) != (0 : Int)) (fun h10 => ?a10) (fun h10 => ?b10)
          case' a10 =>
            have h10' := bne_eq h10
            refine boolCases ((↑(UInt8.toNat (UInt8.ofNat (Int.toNat (IntKind.wrap IntKind.u8 (Int.fdiv q (256 : Int))))) * 256 + UInt8.toNat (UInt8.ofNat (Int.toNat (IntKind.wrap IntKind.u8 q)))) : Int) == (67 : Int)) (fun h11 => ?a11) (fun h11 => ?b11)
            case' a11 =>
              have h11' := ne_of_beq_false h11
              refine ⟨_, _, (outT_ok (kDead_ok s1 s2) (topDead_4_z_ok n v p q draw secs b s1 s2) ?_).1⟩
            case' b11 =>
              have h11' := eq_of_beq h11
              refine ⟨_, _, (outT_ok (kDead_ok s1 s2) (topDead_4_z_ok67 n v p q draw secs b s1 s2) ?_).1⟩
          case' b10 =>
            have h10' := bne_ne h10
            refine ⟨_, _, (outT_ok (kDead_ok s1 s2) (topDead_4_z_esum n v p q draw secs b s1 s2) ?_).1⟩
        case' b9 =>
          refine ⟨_, _, (outT_ok (kDead_ok s1 s2) (topDead_4_z_hbad n v p q draw secs b s1 s2) ?_).1⟩
    case' b2 =>
      refine ⟨_, _, (outT_ok kDead0_ok (topDead_4_qbad n v p q draw secs b) ?_).1⟩
  case' b1 =>
    refine ⟨_, _, (outT_ok kDead0_ok (topDead_4_pbad n v p q draw secs b) ?_).1⟩
  repeat' (first | exact allNil | refine allCons ?_ ?_ | (with_reducible refine allRp _ ?_ ?_))
  all_goals (first | (with_reducible assumption) | (with_reducible exact True.intro) | (with_reducible rfl) | (exact byteW _) | (exact mem_two (byteW _) (byteW _)) | (exact mem_two (byteC _ (by decide)) (byteC _ (by decide))) | (exact mem_one (byteW _)) | (exact ⟨by decide, by decide, mem_four (by first | exact byteW _ | exact byteC _ (by decide)) (by first | exact byteW _ | exact byteC _ (by decide)) (by first | exact byteW _ | exact byteC _ (by decide)) (by first | exact byteW _ | exact byteC _ (by decide))⟩) | (exact mem_two (by first | exact byteW _ | exact byteC _ (by decide)) (by first | exact byteW _ | exact byteC _ (by decide))) | (rw [ip8]; exact rfl) | (with_reducible exact and63b _) | (with_reducible exact and255b _) | (with_reducible exact and65535b _) | decide | (exact rfl) | (simp [isB, wu8]; done) | (simp [isB, wu8]; omega))
set_option maxHeartbeats 40000000 in
set_option maxRecDepth 100000 in
theorem way15 (n v p q : Int) (draw secs : Int) (b : List UInt8) (hb : decide ((↑(List.length b) : Int) > (1600 : Int)) = false) :
    ∃ L' nx', ACall Tryz.prog 3 [.agg [.val (.int .i64 15), .val (.int .i64 n), .val (.int .i64 v), .val (.int .i64 p), .val (.int .i64 q), .val (.int .u32 draw), .val (.int .u32 secs), .bytes b]] [] 0 (.val (.bool true)) L' nx' := by
  obtain ⟨s1, hs1⟩ : ∃ s : Int, (↑(ofL [192, 168, 1, 77, 203, 0, 113, 1, 0, 17, 0, 12, UInt8.ofNat (Int.toNat (IntKind.wrap IntKind.u8 (Int.fdiv q (256 : Int)))), UInt8.ofNat (Int.toNat (IntKind.wrap IntKind.u8 q)), UInt8.ofNat (Int.toNat (IntKind.wrap IntKind.u8 (Int.fdiv p (256 : Int)))), UInt8.ofNat (Int.toNat (IntKind.wrap IntKind.u8 p)), 0, 12, 0, 0, 104, 97, 105, 114]) : Int) = s := ⟨_, rfl⟩
  obtain ⟨s2, hs2⟩ : ∃ s : Int, (31958 : Int) = s := ⟨_, rfl⟩
  refine boolCases (!(decide ((0 : Int) ≤ q) && decide (q ≤ (65535 : Int)))) (fun h1 => ?a1) (fun h1 => ?b1)
  case' a1 =>
    refine boolCases (!(decide ((0 : Int) ≤ p) && decide (p ≤ (65535 : Int)))) (fun h2 => ?a2) (fun h2 => ?b2)
    case' a2 =>
      refine boolCases (s1 == (0 : Int)) (fun h3 => ?a3) (fun h3 => ?b3)
      case' a3 =>
        have h3' := ne_of_beq_false h3
        refine boolCases (!ofL [69, 0, 0, 32, 0, 0, 0, 0, 64, 17, UInt8.ofNat (Int.toNat (IntKind.wrap IntKind.u8 (Int.fdiv s2 (256 : Int)))), UInt8.ofNat (Int.toNat (IntKind.wrap IntKind.u8 s2)), 192, 168, 1, 77, 203, 0, 113, 1] == 0) (fun h4 => ?a4) (fun h4 => ?b4)
        case' a4 =>
          refine boolCases ((↑(UInt8.toNat (UInt8.ofNat (Int.toNat (IntKind.wrap IntKind.u8 (Int.fdiv s1 (256 : Int))))) * 256 + UInt8.toNat (UInt8.ofNat (Int.toNat (IntKind.wrap IntKind.u8 s1)))) : Int) != (0 : Int)) (fun h5 => ?a5) (fun h5 => ?b5)
          case' a5 =>
            have h5' := bne_eq h5
            refine boolCases ((↑(UInt8.toNat (UInt8.ofNat (Int.toNat (IntKind.wrap IntKind.u8 (Int.fdiv p (256 : Int))))) * 256 + UInt8.toNat (UInt8.ofNat (Int.toNat (IntKind.wrap IntKind.u8 p)))) : Int) == (67 : Int)) (fun h6 => ?a6) (fun h6 => ?b6)
            case' a6 =>
              have h6' := ne_of_beq_false h6
              refine ⟨_, _, (outT_ok (kDead_ok s1 s2) (topDead_15_m_ok n v p q draw secs b s1 s2) ?_).1⟩
            case' b6 =>
              have h6' := eq_of_beq h6
              refine ⟨_, _, (outT_ok (kDead_ok s1 s2) (topDead_15_m_ok67 n v p q draw secs b s1 s2) ?_).1⟩
          case' b5 =>
            have h5' := bne_ne h5
            refine boolCases ((↑(ofL (psB 192 168 1 77 203 0 113 1 [0, 17, 0, 12, UInt8.ofNat (Int.toNat (IntKind.wrap IntKind.u8 (Int.fdiv q (256 : Int)))), UInt8.ofNat (Int.toNat (IntKind.wrap IntKind.u8 q)), UInt8.ofNat (Int.toNat (IntKind.wrap IntKind.u8 (Int.fdiv p (256 : Int)))), UInt8.ofNat (Int.toNat (IntKind.wrap IntKind.u8 p)), 0, 12, UInt8.ofNat (Int.toNat (IntKind.wrap IntKind.u8 (Int.fdiv s1 (256 : Int)))), UInt8.ofNat (Int.toNat (IntKind.wrap IntKind.u8 s1)), 104, 97, 105, 114])) : Int) != (0 : Int)) (fun h7 => ?a7) (fun h7 => ?b7)
            case' a7 =>
              have h7' := bne_eq h7
              refine boolCases ((↑(UInt8.toNat (UInt8.ofNat (Int.toNat (IntKind.wrap IntKind.u8 (Int.fdiv p (256 : Int))))) * 256 + UInt8.toNat (UInt8.ofNat (Int.toNat (IntKind.wrap IntKind.u8 p)))) : Int) == (67 : Int)) (fun h8 => ?a8) (fun h8 => ?b8)
              case' a8 =>
                have h8' := ne_of_beq_false h8
                refine ⟨_, _, (outT_ok (kDead_ok s1 s2) (topDead_15_n_ok n v p q draw secs b s1 s2) ?_).1⟩
              case' b8 =>
                have h8' := eq_of_beq h8
                refine ⟨_, _, (outT_ok (kDead_ok s1 s2) (topDead_15_n_ok67 n v p q draw secs b s1 s2) ?_).1⟩
            case' b7 =>
              have h7' := bne_ne h7
              refine ⟨_, _, (outT_ok (kDead_ok s1 s2) (topDead_15_n_esum n v p q draw secs b s1 s2) ?_).1⟩
        case' b4 =>
          refine ⟨_, _, (outT_ok (kDead_ok s1 s2) (topDead_15_n_hbad n v p q draw secs b s1 s2) ?_).1⟩
      case' b3 =>
        have h3' := eq_of_beq h3
        refine boolCases (!ofL [69, 0, 0, 32, 0, 0, 0, 0, 64, 17, UInt8.ofNat (Int.toNat (IntKind.wrap IntKind.u8 (Int.fdiv s2 (256 : Int)))), UInt8.ofNat (Int.toNat (IntKind.wrap IntKind.u8 s2)), 192, 168, 1, 77, 203, 0, 113, 1] == 0) (fun h9 => ?a9) (fun h9 => ?b9)
        case' a9 =>
          refine boolCases ((↑(ofL (psB 192 168 1 77 203 0 113 1 [0, 17, 0, 12, UInt8.ofNat (Int.toNat (IntKind.wrap IntKind.u8 (Int.fdiv q (256 : Int)))), UInt8.ofNat (Int.toNat (IntKind.wrap IntKind.u8 q)), UInt8.ofNat (Int.toNat (IntKind.wrap IntKind.u8 (Int.fdiv p (256 : Int)))), UInt8.ofNat (Int.toNat (IntKind.wrap IntKind.u8 p)), 0, 12, 255, 255, 104, 97, 105, 114])) : Int) != (0 : Int)) (fun h10 => ?a10) (fun h10 => ?b10)
          case' a10 =>
            have h10' := bne_eq h10
            refine boolCases ((↑(UInt8.toNat (UInt8.ofNat (Int.toNat (IntKind.wrap IntKind.u8 (Int.fdiv p (256 : Int))))) * 256 + UInt8.toNat (UInt8.ofNat (Int.toNat (IntKind.wrap IntKind.u8 p)))) : Int) == (67 : Int)) (fun h11 => ?a11) (fun h11 => ?b11)
            case' a11 =>
              have h11' := ne_of_beq_false h11
              refine ⟨_, _, (outT_ok (kDead_ok s1 s2) (topDead_15_z_ok n v p q draw secs b s1 s2) ?_).1⟩
            case' b11 =>
              have h11' := eq_of_beq h11
              refine ⟨_, _, (outT_ok (kDead_ok s1 s2) (topDead_15_z_ok67 n v p q draw secs b s1 s2) ?_).1⟩
          case' b10 =>
            have h10' := bne_ne h10
            refine ⟨_, _, (outT_ok (kDead_ok s1 s2) (topDead_15_z_esum n v p q draw secs b s1 s2) ?_).1⟩
        case' b9 =>
          refine ⟨_, _, (outT_ok (kDead_ok s1 s2) (topDead_15_z_hbad n v p q draw secs b s1 s2) ?_).1⟩
    case' b2 =>
      refine ⟨_, _, (outT_ok kDead0_ok (topDead_15_pbad n v p q draw secs b) ?_).1⟩
  case' b1 =>
    refine ⟨_, _, (outT_ok kDead0_ok (topDead_15_qbad n v p q draw secs b) ?_).1⟩
  repeat' (first | exact allNil | refine allCons ?_ ?_ | (with_reducible refine allRp _ ?_ ?_))
  all_goals (first | (with_reducible assumption) | (with_reducible exact True.intro) | (with_reducible rfl) | (exact byteW _) | (exact mem_two (byteW _) (byteW _)) | (exact mem_two (byteC _ (by decide)) (byteC _ (by decide))) | (exact mem_one (byteW _)) | (exact ⟨by decide, by decide, mem_four (by first | exact byteW _ | exact byteC _ (by decide)) (by first | exact byteW _ | exact byteC _ (by decide)) (by first | exact byteW _ | exact byteC _ (by decide)) (by first | exact byteW _ | exact byteC _ (by decide))⟩) | (exact mem_two (by first | exact byteW _ | exact byteC _ (by decide)) (by first | exact byteW _ | exact byteC _ (by decide))) | (rw [ip8]; exact rfl) | (with_reducible exact and63b _) | (with_reducible exact and255b _) | (with_reducible exact and65535b _) | decide | (exact rfl) | (simp [isB, wu8]; done) | (simp [isB, wu8]; omega))
set_option maxHeartbeats 40000000 in
set_option maxRecDepth 100000 in
theorem way7 (n v p q : Int) (draw secs : Int) (b : List UInt8) (hb : decide ((↑(List.length b) : Int) > (1600 : Int)) = false) :
    ∃ L' nx', ACall Tryz.prog 3 [.agg [.val (.int .i64 7), .val (.int .i64 n), .val (.int .i64 v), .val (.int .i64 p), .val (.int .i64 q), .val (.int .u32 draw), .val (.int .u32 secs), .bytes b]] [] 0 (.val (.bool true)) L' nx' := by
  obtain ⟨s1, hs1⟩ : ∃ s : Int, (↑(ofL [192, 168, 1, 77, 192, 168, 1, 1, 0, 17, 0, 20, 19, 136, 20, 231, 0, 20, 0, 0, 0, UInt8.ofNat (Int.toNat (IntKind.wrap IntKind.u8 (IntKind.wrap IntKind.i64 ((1 : Int) + bits BinOp.and IntKind.i64 v (1 : Int))))), 0, 0, UInt8.ofNat (Int.toNat (IntKind.wrap IntKind.u8 (Int.fdiv p (256 : Int)))), UInt8.ofNat (Int.toNat (IntKind.wrap IntKind.u8 p)), UInt8.ofNat (Int.toNat (IntKind.wrap IntKind.u8 (Int.fdiv q (256 : Int)))), UInt8.ofNat (Int.toNat (IntKind.wrap IntKind.u8 q)), UInt8.ofNat (Int.toNat (IntKind.wrap IntKind.u8 (Int.fdiv (IntKind.wrap IntKind.i64 (Int.fdiv secs (65536 : Int))) (256 : Int)))), UInt8.ofNat (Int.toNat (IntKind.wrap IntKind.u8 (IntKind.wrap IntKind.i64 (Int.fdiv secs (65536 : Int))))), UInt8.ofNat (Int.toNat (IntKind.wrap IntKind.u8 (Int.fdiv (IntKind.wrap IntKind.i64 (bits BinOp.and IntKind.u32 secs (65535 : Int))) (256 : Int)))), UInt8.ofNat (Int.toNat (IntKind.wrap IntKind.u8 (IntKind.wrap IntKind.i64 (bits BinOp.and IntKind.u32 secs (65535 : Int)))))]) : Int) = s := ⟨_, rfl⟩
  obtain ⟨s2, hs2⟩ : ∃ s : Int, (63270 : Int) = s := ⟨_, rfl⟩
  refine boolCases (s1 == (0 : Int)) (fun h1 => ?a1) (fun h1 => ?b1)
  case' a1 =>
    have h1' := ne_of_beq_false h1
    refine boolCases (!ofL [69, 0, 0, 40, 0, 0, 0, 0, 64, 17, UInt8.ofNat (Int.toNat (IntKind.wrap IntKind.u8 (Int.fdiv s2 (256 : Int)))), UInt8.ofNat (Int.toNat (IntKind.wrap IntKind.u8 s2)), 192, 168, 1, 77, 192, 168, 1, 1] == 0) (fun h2 => ?a2) (fun h2 => ?b2)
    case' a2 =>
      refine boolCases ((↑(UInt8.toNat (UInt8.ofNat (Int.toNat (IntKind.wrap IntKind.u8 (Int.fdiv s1 (256 : Int))))) * 256 + UInt8.toNat (UInt8.ofNat (Int.toNat (IntKind.wrap IntKind.u8 s1)))) : Int) != (0 : Int)) (fun h3 => ?a3) (fun h3 => ?b3)
      case' a3 =>
        have h3' := bne_eq h3
        refine ⟨_, _, (outT_ok (kDead_ok s1 s2) (topDead_7_m_ok n v p q draw secs b s1 s2) ?_).1⟩
      case' b3 =>
        have h3' := bne_ne h3
        refine boolCases ((↑(ofL (psB 192 168 1 77 192 168 1 1 [0, 17, 0, 20, 19, 136, 20, 231, 0, 20, UInt8.ofNat (Int.toNat (IntKind.wrap IntKind.u8 (Int.fdiv s1 (256 : Int)))), UInt8.ofNat (Int.toNat (IntKind.wrap IntKind.u8 s1)), 0, UInt8.ofNat (Int.toNat (IntKind.wrap IntKind.u8 (IntKind.wrap IntKind.i64 ((1 : Int) + bits BinOp.and IntKind.i64 v (1 : Int))))), 0, 0, UInt8.ofNat (Int.toNat (IntKind.wrap IntKind.u8 (Int.fdiv p (256 : Int)))), UInt8.ofNat (Int.toNat (IntKind.wrap IntKind.u8 p)), UInt8.ofNat (Int.toNat (IntKind.wrap IntKind.u8 (Int.fdiv q (256 : Int)))), UInt8.ofNat (Int.toNat (IntKind.wrap IntKind.u8 q)), UInt8.ofNat (Int.toNat (IntKind.wrap IntKind.u8 (Int.fdiv (IntKind.wrap IntKind.i64 (Int.fdiv secs (65536 : Int))) (256 : Int)))), UInt8.ofNat (Int.toNat (IntKind.wrap IntKind.u8 (IntKind.wrap IntKind.i64 (Int.fdiv secs (65536 : Int))))), UInt8.ofNat (Int.toNat (IntKind.wrap IntKind.u8 (Int.fdiv (IntKind.wrap IntKind.i64 (bits BinOp.and IntKind.u32 secs (65535 : Int))) (256 : Int)))), UInt8.ofNat (Int.toNat (IntKind.wrap IntKind.u8 (IntKind.wrap IntKind.i64 (bits BinOp.and IntKind.u32 secs (65535 : Int)))))])) : Int) != (0 : Int)) (fun h4 => ?a4) (fun h4 => ?b4)
        case' a4 =>
          have h4' := bne_eq h4
          refine ⟨_, _, (outT_ok (kDead_ok s1 s2) (topDead_7_n_ok n v p q draw secs b s1 s2) ?_).1⟩
        case' b4 =>
          have h4' := bne_ne h4
          refine ⟨_, _, (outT_ok (kDead_ok s1 s2) (topDead_7_n_esum n v p q draw secs b s1 s2) ?_).1⟩
    case' b2 =>
      refine ⟨_, _, (outT_ok (kDead_ok s1 s2) (topDead_7_n_hbad n v p q draw secs b s1 s2) ?_).1⟩
  case' b1 =>
    have h1' := eq_of_beq h1
    refine boolCases (!ofL [69, 0, 0, 40, 0, 0, 0, 0, 64, 17, UInt8.ofNat (Int.toNat (IntKind.wrap IntKind.u8 (Int.fdiv s2 (256 : Int)))), UInt8.ofNat (Int.toNat (IntKind.wrap IntKind.u8 s2)), 192, 168, 1, 77, 192, 168, 1, 1] == 0) (fun h5 => ?a5) (fun h5 => ?b5)
    case' a5 =>
      refine boolCases ((↑(ofL (psB 192 168 1 77 192 168 1 1 [0, 17, 0, 20, 19, 136, 20, 231, 0, 20, 255, 255, 0, UInt8.ofNat (Int.toNat (IntKind.wrap IntKind.u8 (IntKind.wrap IntKind.i64 ((1 : Int) + bits BinOp.and IntKind.i64 v (1 : Int))))), 0, 0, UInt8.ofNat (Int.toNat (IntKind.wrap IntKind.u8 (Int.fdiv p (256 : Int)))), UInt8.ofNat (Int.toNat (IntKind.wrap IntKind.u8 p)), UInt8.ofNat (Int.toNat (IntKind.wrap IntKind.u8 (Int.fdiv q (256 : Int)))), UInt8.ofNat (Int.toNat (IntKind.wrap IntKind.u8 q)), UInt8.ofNat (Int.toNat (IntKind.wrap IntKind.u8 (Int.fdiv (IntKind.wrap IntKind.i64 (Int.fdiv secs (65536 : Int))) (256 : Int)))), UInt8.ofNat (Int.toNat (IntKind.wrap IntKind.u8 (IntKind.wrap IntKind.i64 (Int.fdiv secs (65536 : Int))))), UInt8.ofNat (Int.toNat (IntKind.wrap IntKind.u8 (Int.fdiv (IntKind.wrap IntKind.i64 (bits BinOp.and IntKind.u32 secs (65535 : Int))) (256 : Int)))), UInt8.ofNat (Int.toNat (IntKind.wrap IntKind.u8 (IntKind.wrap IntKind.i64 (bits BinOp.and IntKind.u32 secs (65535 : Int)))))])) : Int) != (0 : Int)) (fun h6 => ?a6) (fun h6 => ?b6)
      case' a6 =>
        have h6' := bne_eq h6
        refine ⟨_, _, (outT_ok (kDead_ok s1 s2) (topDead_7_z_ok n v p q draw secs b s1 s2) ?_).1⟩
      case' b6 =>
        have h6' := bne_ne h6
        refine ⟨_, _, (outT_ok (kDead_ok s1 s2) (topDead_7_z_esum n v p q draw secs b s1 s2) ?_).1⟩
    case' b5 =>
      refine ⟨_, _, (outT_ok (kDead_ok s1 s2) (topDead_7_z_hbad n v p q draw secs b s1 s2) ?_).1⟩
  repeat' (first | exact allNil | refine allCons ?_ ?_ | (with_reducible refine allRp _ ?_ ?_))
  all_goals (first | (with_reducible assumption) | (with_reducible exact True.intro) | (with_reducible rfl) | (exact byteW _) | (exact mem_two (byteW _) (byteW _)) | (exact mem_two (byteC _ (by decide)) (byteC _ (by decide))) | (exact mem_one (byteW _)) | (exact ⟨by decide, by decide, mem_four (by first | exact byteW _ | exact byteC _ (by decide)) (by first | exact byteW _ | exact byteC _ (by decide)) (by first | exact byteW _ | exact byteC _ (by decide)) (by first | exact byteW _ | exact byteC _ (by decide))⟩) | (exact mem_two (by first | exact byteW _ | exact byteC _ (by decide)) (by first | exact byteW _ | exact byteC _ (by decide))) | (rw [ip8]; exact rfl) | (with_reducible exact and63b _) | (with_reducible exact and255b _) | (with_reducible exact and65535b _) | decide | (exact rfl) | (simp [isB, wu8]; done) | (simp [isB, wu8]; omega))
set_option maxHeartbeats 40000000 in
set_option maxRecDepth 100000 in
theorem way9 (n v p q : Int) (draw secs : Int) (b : List UInt8) (hb : decide ((↑(List.length b) : Int) > (1600 : Int)) = false) :
    ∃ L' nx', ACall Tryz.prog 3 [.agg [.val (.int .i64 9), .val (.int .i64 n), .val (.int .i64 v), .val (.int .i64 p), .val (.int .i64 q), .val (.int .u32 draw), .val (.int .u32 secs), .bytes b]] [] 0 (.val (.bool true)) L' nx' := by
  obtain ⟨s1, hs1⟩ : ∃ s : Int, (↑(ofL [192, 168, 1, 77, 192, 168, 1, 1, 0, 17, 0, 28, 11, 184, 0, 53, 0, 28, 0, 0, UInt8.ofNat (Int.toNat (IntKind.wrap IntKind.u8 (Int.fdiv p (256 : Int)))), UInt8.ofNat (Int.toNat (IntKind.wrap IntKind.u8 p)), 1, 0, 0, 1, 0, 0, 0, 0, 0, 0, 2, 110, UInt8.ofNat (Int.toNat (IntKind.wrap IntKind.u8 (IntKind.wrap IntKind.i64 ((97 : Int) + bits BinOp.and IntKind.i64 v (15 : Int))))), 0, 0, 1, 0, 1]) : Int) = s := ⟨_, rfl⟩
  obtain ⟨s2, hs2⟩ : ∃ s : Int, (63262 : Int) = s := ⟨_, rfl⟩
  refine boolCases (decide (p ≥ (0 : Int))) (fun h1 => ?a1) (fun h1 => ?b1)
  case' a1 =>
    have h1' := of_decide_eq_false h1
    refine ⟨_, _, (outT_ok kDead0_ok (topDead_9_idbad n v p q draw secs b) ?_).1⟩
  case' b1 =>
    have h1' := of_decide_eq_true h1
    refine boolCases (!decide (p ≤ (65535 : Int))) (fun h2 => ?a2) (fun h2 => ?b2)
    case' a2 =>
      have h2' := notd_false h2
      refine boolCases (s1 == (0 : Int)) (fun h3 => ?a3) (fun h3 => ?b3)
      case' a3 =>
        have h3' := ne_of_beq_false h3
        refine boolCases (!ofL [69, 0, 0, 48, 0, 0, 0, 0, 64, 17, UInt8.ofNat (Int.toNat (IntKind.wrap IntKind.u8 (Int.fdiv s2 (256 : Int)))), UInt8.ofNat (Int.toNat (IntKind.wrap IntKind.u8 s2)), 192, 168, 1, 77, 192, 168, 1, 1] == 0) (fun h4 => ?a4) (fun h4 => ?b4)
        case' a4 =>
          refine boolCases ((↑(UInt8.toNat (UInt8.ofNat (Int.toNat (IntKind.wrap IntKind.u8 (Int.fdiv s1 (256 : Int))))) * 256 + UInt8.toNat (UInt8.ofNat (Int.toNat (IntKind.wrap IntKind.u8 s1)))) : Int) != (0 : Int)) (fun h5 => ?a5) (fun h5 => ?b5)
          case' a5 =>
            have h5' := bne_eq h5
            refine ⟨_, _, (outT_ok (kDead_ok s1 s2) (topDead_9_m_ok n v p q draw secs b s1 s2) ?_).1⟩
          case' b5 =>
            have h5' := bne_ne h5
            refine boolCases ((↑(ofL (psB 192 168 1 77 192 168 1 1 [0, 17, 0, 28, 11, 184, 0, 53, 0, 28, UInt8.ofNat (Int.toNat (IntKind.wrap IntKind.u8 (Int.fdiv s1 (256 : Int)))), UInt8.ofNat (Int.toNat (IntKind.wrap IntKind.u8 s1)), UInt8.ofNat (Int.toNat (IntKind.wrap IntKind.u8 (Int.fdiv p (256 : Int)))), UInt8.ofNat (Int.toNat (IntKind.wrap IntKind.u8 p)), 1, 0, 0, 1, 0, 0, 0, 0, 0, 0, 2, 110, UInt8.ofNat (Int.toNat (IntKind.wrap IntKind.u8 (IntKind.wrap IntKind.i64 ((97 : Int) + bits BinOp.and IntKind.i64 v (15 : Int))))), 0, 0, 1, 0, 1])) : Int) != (0 : Int)) (fun h6 => ?a6) (fun h6 => ?b6)
            case' a6 =>
              have h6' := bne_eq h6
              refine ⟨_, _, (outT_ok (kDead_ok s1 s2) (topDead_9_n_ok n v p q draw secs b s1 s2) ?_).1⟩
            case' b6 =>
              have h6' := bne_ne h6
              refine ⟨_, _, (outT_ok (kDead_ok s1 s2) (topDead_9_n_esum n v p q draw secs b s1 s2) ?_).1⟩
        case' b4 =>
          refine ⟨_, _, (outT_ok (kDead_ok s1 s2) (topDead_9_n_hbad n v p q draw secs b s1 s2) ?_).1⟩
      case' b3 =>
        have h3' := eq_of_beq h3
        refine boolCases (!ofL [69, 0, 0, 48, 0, 0, 0, 0, 64, 17, UInt8.ofNat (Int.toNat (IntKind.wrap IntKind.u8 (Int.fdiv s2 (256 : Int)))), UInt8.ofNat (Int.toNat (IntKind.wrap IntKind.u8 s2)), 192, 168, 1, 77, 192, 168, 1, 1] == 0) (fun h7 => ?a7) (fun h7 => ?b7)
        case' a7 =>
          refine boolCases ((↑(ofL (psB 192 168 1 77 192 168 1 1 [0, 17, 0, 28, 11, 184, 0, 53, 0, 28, 255, 255, UInt8.ofNat (Int.toNat (IntKind.wrap IntKind.u8 (Int.fdiv p (256 : Int)))), UInt8.ofNat (Int.toNat (IntKind.wrap IntKind.u8 p)), 1, 0, 0, 1, 0, 0, 0, 0, 0, 0, 2, 110, UInt8.ofNat (Int.toNat (IntKind.wrap IntKind.u8 (IntKind.wrap IntKind.i64 ((97 : Int) + bits BinOp.and IntKind.i64 v (15 : Int))))), 0, 0, 1, 0, 1])) : Int) != (0 : Int)) (fun h8 => ?a8) (fun h8 => ?b8)
          case' a8 =>
            have h8' := bne_eq h8
            refine ⟨_, _, (outT_ok (kDead_ok s1 s2) (topDead_9_z_ok n v p q draw secs b s1 s2) ?_).1⟩
          case' b8 =>
            have h8' := bne_ne h8
            refine ⟨_, _, (outT_ok (kDead_ok s1 s2) (topDead_9_z_esum n v p q draw secs b s1 s2) ?_).1⟩
        case' b7 =>
          refine ⟨_, _, (outT_ok (kDead_ok s1 s2) (topDead_9_z_hbad n v p q draw secs b s1 s2) ?_).1⟩
    case' b2 =>
      have h2' := notd_true h2
      refine ⟨_, _, (outT_ok kDead0_ok (topDead_9_idbig n v p q draw secs b) ?_).1⟩
  repeat' (first | exact allNil | refine allCons ?_ ?_ | (with_reducible refine allRp _ ?_ ?_))
  all_goals (first | (with_reducible assumption) | (with_reducible exact True.intro) | (with_reducible rfl) | (exact byteW _) | (exact mem_two (byteW _) (byteW _)) | (exact mem_two (byteC _ (by decide)) (byteC _ (by decide))) | (exact mem_one (byteW _)) | (exact ⟨by decide, by decide, mem_four (by first | exact byteW _ | exact byteC _ (by decide)) (by first | exact byteW _ | exact byteC _ (by decide)) (by first | exact byteW _ | exact byteC _ (by decide)) (by first | exact byteW _ | exact byteC _ (by decide))⟩) | (exact mem_two (by first | exact byteW _ | exact byteC _ (by decide)) (by first | exact byteW _ | exact byteC _ (by decide))) | (rw [ip8]; exact rfl) | (with_reducible exact and63b _) | (with_reducible exact and255b _) | (with_reducible exact and65535b _) | decide | (exact rfl) | (simp [isB, wu8]; done) | (simp [isB, wu8]; omega))
set_option maxHeartbeats 40000000 in
set_option maxRecDepth 100000 in
theorem way13 (n v p q : Int) (draw secs : Int) (b : List UInt8) (hb : decide ((↑(List.length b) : Int) > (1600 : Int)) = false) :
    ∃ L' nx', ACall Tryz.prog 3 [.agg [.val (.int .i64 13), .val (.int .i64 n), .val (.int .i64 v), .val (.int .i64 p), .val (.int .i64 q), .val (.int .u32 draw), .val (.int .u32 secs), .bytes b]] [] 0 (.val (.bool true)) L' nx' := by
  obtain ⟨s1, hs1⟩ : ∃ s : Int, (↑(ofL [192, 168, 1, 77, 8, 8, 4, UInt8.ofNat (Int.toNat (IntKind.wrap IntKind.u8 v)), 0, 6, 0, 20, UInt8.ofNat (Int.toNat (IntKind.wrap IntKind.u8 (Int.fdiv (bits BinOp.and IntKind.i64 p (65535 : Int)) (256 : Int)))), UInt8.ofNat (Int.toNat (IntKind.wrap IntKind.u8 (bits BinOp.and IntKind.i64 p (65535 : Int)))), 0, 80, 0, 0, 0, 0, 0, 0, 0, 0, 80, UInt8.ofNat (Int.toNat (IntKind.wrap IntKind.u8 (bits BinOp.and IntKind.i64 q (63 : Int)))), 0, 0, 0, 0, 0, 0]) : Int) = s := ⟨_, rfl⟩
  obtain ⟨s2, hs2⟩ : ∃ s : Int, (↑(ofL [69, 0, 0, 40, 0, 0, 0, 0, 64, 6, 0, 0, 192, 168, 1, 77, 8, 8, 4, UInt8.ofNat (Int.toNat (IntKind.wrap IntKind.u8 v))]) : Int) = s := ⟨_, rfl⟩
  refine boolCases (!ofL [69, 0, 0, 40, 0, 0, 0, 0, 64, 6, UInt8.ofNat (Int.toNat (IntKind.wrap IntKind.u8 (Int.fdiv s2 (256 : Int)))), UInt8.ofNat (Int.toNat (IntKind.wrap IntKind.u8 s2)), 192, 168, 1, 77, 8, 8, 4, UInt8.ofNat (Int.toNat (IntKind.wrap IntKind.u8 v))] == 0) (fun h1 => ?a1) (fun h1 => ?b1)
  case' a1 =>
    refine ⟨_, _, (outT_ok (kDead_ok s1 s2) (topDead_13_ok n v p q draw secs b s1 s2) ?_).1⟩
  case' b1 =>
    refine ⟨_, _, (outT_ok (kDead_ok s1 s2) (topDead_13_hbad n v p q draw secs b s1 s2) ?_).1⟩
  repeat' (first | exact allNil | refine allCons ?_ ?_ | (with_reducible refine allRp _ ?_ ?_))
  all_goals (first | (with_reducible assumption) | (with_reducible exact True.intro) | (with_reducible rfl) | (exact byteW _) | (exact mem_two (byteW _) (byteW _)) | (exact mem_two (byteC _ (by decide)) (byteC _ (by decide))) | (exact mem_one (byteW _)) | (exact ⟨by decide, by decide, mem_four (by first | exact byteW _ | exact byteC _ (by decide)) (by first | exact byteW _ | exact byteC _ (by decide)) (by first | exact byteW _ | exact byteC _ (by decide)) (by first | exact byteW _ | exact byteC _ (by decide))⟩) | (exact mem_two (by first | exact byteW _ | exact byteC _ (by decide)) (by first | exact byteW _ | exact byteC _ (by decide))) | (rw [ip8]; exact rfl) | (with_reducible exact and63b _) | (with_reducible exact and255b _) | (with_reducible exact and65535b _) | decide | (exact rfl) | (simp [isB, wu8]; done) | (simp [isB, wu8]; omega))
set_option maxHeartbeats 40000000 in
set_option maxRecDepth 100000 in
theorem way14 (n v p q : Int) (draw secs : Int) (b : List UInt8) (hb : decide ((↑(List.length b) : Int) > (1600 : Int)) = false) :
    ∃ L' nx', ACall Tryz.prog 3 [.agg [.val (.int .i64 14), .val (.int .i64 n), .val (.int .i64 v), .val (.int .i64 p), .val (.int .i64 q), .val (.int .u32 draw), .val (.int .u32 secs), .bytes b]] [] 0 (.val (.bool true)) L' nx' := by
  obtain ⟨s1, hs1⟩ : ∃ s : Int, (↑(ofL [8, 0, 0, 0, UInt8.ofNat (Int.toNat (IntKind.wrap IntKind.u8 (Int.fdiv (IntKind.wrap IntKind.i64 (Int.fdiv (IntKind.wrap IntKind.u32 (IntKind.wrap IntKind.u32 (bits BinOp.and IntKind.i64 p (65535 : Int)) * (65536 : Int))) (65536 : Int))) (256 : Int)))), UInt8.ofNat (Int.toNat (IntKind.wrap IntKind.u8 (IntKind.wrap IntKind.i64 (Int.fdiv (IntKind.wrap IntKind.u32 (IntKind.wrap IntKind.u32 (bits BinOp.and IntKind.i64 p (65535 : Int)) * (65536 : Int))) (65536 : Int))))), UInt8.ofNat (Int.toNat (IntKind.wrap IntKind.u8 (Int.fdiv (IntKind.wrap IntKind.i64 (bits BinOp.and IntKind.u32 (IntKind.wrap IntKind.u32 (IntKind.wrap IntKind.u32 (bits BinOp.and IntKind.i64 p (65535 : Int)) * (65536 : Int))) (65535 : Int))) (256 : Int)))), UInt8.ofNat (Int.toNat (IntKind.wrap IntKind.u8 (IntKind.wrap IntKind.i64 (bits BinOp.and IntKind.u32 (IntKind.wrap IntKind.u32 (IntKind.wrap IntKind.u32 (bits BinOp.and IntKind.i64 p (65535 : Int)) * (65536 : Int))) (65535 : Int)))))]) : Int) = s := ⟨_, rfl⟩
  obtain ⟨s2, hs2⟩ : ∃ s : Int, (↑(ofL [69, 0, 0, 28, 0, 0, 0, 0, UInt8.ofNat (Int.toNat (IntKind.wrap IntKind.u8 (bits BinOp.and IntKind.i64 q (255 : Int)))), 1, 0, 0, 192, 168, 1, 77, 8, 8, 4, UInt8.ofNat (Int.toNat (IntKind.wrap IntKind.u8 v))]) : Int) = s := ⟨_, rfl⟩
  refine boolCases (!ofL [69, 0, 0, 28, 0, 0, 0, 0, UInt8.ofNat (Int.toNat (IntKind.wrap IntKind.u8 (bits BinOp.and IntKind.i64 q (255 : Int)))), 1, UInt8.ofNat (Int.toNat (IntKind.wrap IntKind.u8 (Int.fdiv s2 (256 : Int)))), UInt8.ofNat (Int.toNat (IntKind.wrap IntKind.u8 s2)), 192, 168, 1, 77, 8, 8, 4, UInt8.ofNat (Int.toNat (IntKind.wrap IntKind.u8 v))] == 0) (fun h1 => ?a1) (fun h1 => ?b1)
  case' a1 =>
    refine ⟨_, _, (outT_ok (kDead_ok s1 s2) (topDead_14_ok n v p q draw secs b s1 s2) ?_).1⟩
  case' b1 =>
    refine ⟨_, _, (outT_ok (kDead_ok s1 s2) (topDead_14_hbad n v p q draw secs b s1 s2) ?_).1⟩
  repeat' (first | exact allNil | refine allCons ?_ ?_ | (with_reducible refine allRp _ ?_ ?_))
  all_goals (first | (with_reducible assumption) | (with_reducible exact True.intro) | (with_reducible rfl) | (exact byteW _) | (exact mem_two (byteW _) (byteW _)) | (exact mem_two (byteC _ (by decide)) (byteC _ (by decide))) | (exact mem_one (byteW _)) | (exact ⟨by decide, by decide, mem_four (by first | exact byteW _ | exact byteC _ (by decide)) (by first | exact byteW _ | exact byteC _ (by decide)) (by first | exact byteW _ | exact byteC _ (by decide)) (by first | exact byteW _ | exact byteC _ (by decide))⟩) | (exact mem_two (by first | exact byteW _ | exact byteC _ (by decide)) (by first | exact byteW _ | exact byteC _ (by decide))) | (rw [ip8]; exact rfl) | (with_reducible exact and63b _) | (with_reducible exact and255b _) | (with_reducible exact and65535b _) | decide | (exact rfl) | (simp [isB, wu8]; done) | (simp [isB, wu8]; omega))
theorem walk (op n v p q : Int) (draw secs : Int) (b : List UInt8) :
    ∃ L' nx', ACall Tryz.prog 3 [.agg [.val (.int .i64 op), .val (.int .i64 n), .val (.int .i64 v), .val (.int .i64 p), .val (.int .i64 q), .val (.int .u32 draw), .val (.int .u32 secs), .bytes b]] [] 0 (.val (.bool true)) L' nx' := by
  cases hb : decide ((↑(List.length b) : Int) > (1600 : Int))
  case true =>
    refine ⟨_, _, (outT_ok kDead0_ok (topDead_x_big op n v p q draw secs b) ?_).1⟩
    repeat' (first | exact allNil | refine allCons ?_ ?_ | (with_reducible refine allRp _ ?_ ?_))
    all_goals (first | (with_reducible assumption) | (with_reducible exact True.intro) | (with_reducible rfl) | (exact byteW _) | (exact mem_two (byteW _) (byteW _)) | (exact mem_two (byteC _ (by decide)) (byteC _ (by decide))) | (exact mem_one (byteW _)) | (exact ⟨by decide, by decide, mem_four (by first | exact byteW _ | exact byteC _ (by decide)) (by first | exact byteW _ | exact byteC _ (by decide)) (by first | exact byteW _ | exact byteC _ (by decide)) (by first | exact byteW _ | exact byteC _ (by decide))⟩) | (exact mem_two (by first | exact byteW _ | exact byteC _ (by decide)) (by first | exact byteW _ | exact byteC _ (by decide))) | (rw [ip8]; exact rfl) | (with_reducible exact and63b _) | (with_reducible exact and255b _) | (with_reducible exact and65535b _) | decide | (exact rfl) | (simp [isB, wu8]; done) | (simp [isB, wu8]; omega))
  case false =>
    by_cases h4 : op = 4
    · subst h4
      exact way4 n v p q draw secs b hb
    by_cases h15 : op = 15
    · subst h15
      exact way15 n v p q draw secs b hb
    by_cases h7 : op = 7
    · subst h7
      exact way7 n v p q draw secs b hb
    by_cases h9 : op = 9
    · subst h9
      exact way9 n v p q draw secs b hb
    by_cases h13 : op = 13
    · subst h13
      exact way13 n v p q draw secs b hb
    by_cases h14 : op = 14
    · subst h14
      exact way14 n v p q draw secs b hb
    refine ⟨_, _, (outT_ok kDead0_ok (topDead_x_other op n v p q draw secs b) ?_).1⟩
    repeat' (first | exact allNil | refine allCons ?_ ?_ | (with_reducible refine allRp _ ?_ ?_))
    all_goals (first | (with_reducible assumption) | (with_reducible exact True.intro) | (with_reducible rfl) | (exact byteW _) | (exact mem_two (byteW _) (byteW _)) | (exact mem_two (byteC _ (by decide)) (byteC _ (by decide))) | (exact mem_one (byteW _)) | (exact ⟨by decide, by decide, mem_four (by first | exact byteW _ | exact byteC _ (by decide)) (by first | exact byteW _ | exact byteC _ (by decide)) (by first | exact byteW _ | exact byteC _ (by decide)) (by first | exact byteW _ | exact byteC _ (by decide))⟩) | (exact mem_two (by first | exact byteW _ | exact byteC _ (by decide)) (by first | exact byteW _ | exact byteC _ (by decide))) | (rw [ip8]; exact rfl) | (with_reducible exact and63b _) | (with_reducible exact and255b _) | (with_reducible exact and65535b _) | decide | (exact rfl) | (simp; omega) | (simp [isB, wu8]; done) | (simp [isB, wu8]; omega))
end Go.Proofs.YtbpofglponmpnaaGreatDoor.topDead
