/- Words for what is left to show behind a run: bytes, wraps, quotients. -/
import Derived.Test.YtoekncmggjhmjaaQs
import Derived.Test.YtoekncmggjhmjaaPlain
namespace Go.Proofs.Ytoekncmggjhmjaa
open Go.RowKit

theorem wu8 (z : Int) : IntKind.u8.wrap z = z % 256 := by simp [IntKind.wrap, IntKind.bits, IntKind.signed]
theorem isB (z : Int) : isByteAV (.val (.int .u8 z)) ↔ (0 ≤ z ∧ z < 256) := Iff.rfl
theorem lo8_raw (z : Int) : UInt8.ofNat (Int.toNat (z % 256)) = lo8 z := rfl
theorem fd256 (z : Int) : Int.fdiv z 256 = z / 256 := Int.fdiv_eq_ediv_of_nonneg _ (by decide)
theorem fd65536 (z : Int) : Int.fdiv z 65536 = z / 65536 := Int.fdiv_eq_ediv_of_nonneg _ (by decide)
theorem fd16777216 (z : Int) : Int.fdiv z 16777216 = z / 16777216 := Int.fdiv_eq_ediv_of_nonneg _ (by decide)
theorem w64 (z : Int) (h : -9223372036854775808 ≤ z ∧ z ≤ 9223372036854775807) : IntKind.i64.wrap z = z := IntWalk.i64_in z h
theorem wf_u8 {z : Int} (h : (Lit.int .u8 z).wf = true) : 0 ≤ z ∧ z < 256 := by
  simp [Lit.wf, IntKind.min, IntKind.max, IntKind.signed, IntKind.bits] at h; omega
theorem wf_u32 {z : Int} (h : (Lit.int .u32 z).wf = true) : 0 ≤ z ∧ z < 4294967296 := by
  simp [Lit.wf, IntKind.min, IntKind.max, IntKind.signed, IntKind.bits] at h; omega
theorem wf_i64 {z : Int} (h : (Lit.int .i64 z).wf = true) : -9223372036854775808 ≤ z ∧ z ≤ 9223372036854775807 := by
  simp [Lit.wf, IntKind.min, IntKind.max, IntKind.signed, IntKind.bits] at h; omega
theorem and_u32_65535 (z : Int) (h : 0 ≤ z ∧ z < 4294967296) : bits .and .u32 z 65535 = z % 65536 := by
  obtain ⟨n, rfl⟩ := Int.eq_ofNat_of_zero_le h.1
  have hn : n < 4294967296 := by omega
  show IntKind.u32.wrap ((BitVec.ofInt 32 (n : Int) &&& BitVec.ofInt 32 (65535 : Int)).toNat : Int) = _
  have h1 : (BitVec.ofInt 32 (65535 : Int)).toNat = 2 ^ 16 - 1 := by decide
  have h2 : (BitVec.ofInt 32 (n : Int)).toNat = n := by rw [BitVec.ofInt_natCast, BitVec.toNat_ofNat]; exact Nat.mod_eq_of_lt (by omega)
  rw [BitVec.toNat_and, h1, h2, Nat.and_two_pow_sub_one_eq_mod, IntWalk.u32_in _ (by omega)]
  omega
theorem sameO_iff (x : Option AObj) (y : AObj) : SameO x y ↔ x = some y := Iff.rfl
theorem wu8_lo (z : Int) : 0 ≤ IntKind.u8.wrap z := by rw [wu8]; omega
theorem wu8_hi (z : Int) : IntKind.u8.wrap z < 256 := by rw [wu8]; omega
theorem beq_t {α : Type} [BEq α] [LawfulBEq α] {a b : α} (h : a = b) : (a == b) = true := by rw [h]; exact beq_self_eq_true b
theorem bne_f {α : Type} [BEq α] [LawfulBEq α] {a b : α} (h : a = b) : (a != b) = false := by rw [h]; simp
theorem not_t {b : Bool} (h : b = true) : (!b) = false := by rw [h]; rfl
theorem ofNat_lo8 (n : Nat) : UInt8.ofNat (Int.toNat ((n : Int) % 256)) = UInt8.ofNat n := by
  rw [show Int.toNat ((n : Int) % 256) = n % 256 from by omega]
  apply UInt8.toNat_inj.1
  simp
theorem lo8_toNat (z : Int) : ((lo8 z).toNat : Int) = z % 256 := by
  unfold lo8
  rw [UInt8.toNat_ofNat', Nat.mod_eq_of_lt (by omega)]
  omega
theorem lo8_nat (n : Nat) : (lo8 (n : Int)).toNat = n % 256 := by
  have := lo8_toNat (n : Int); omega
theorem put_sum (n : Nat) (h : n ≤ 65535) : (lo8 ((n : Int) / 256)).toNat * 256 + (lo8 (n : Int)).toNat = n := by
  have h1 := lo8_toNat ((n : Int) / 256)
  have h2 := lo8_toNat (n : Int)
  omega
theorem u8_eta (x : UInt8) : UInt8.ofNat (Int.toNat (x.toNat : Int)) = x := by
  rw [Int.toNat_natCast]; exact UInt8.ofNat_toNat
theorem lo8_mod (z : Int) : lo8 (z % 65536) = lo8 z := lo8_congr (by omega)
theorem lo8_mod2 (z : Int) : lo8 (z % 65536 / 256) = lo8 (z / 256) := lo8_congr (by omega)
theorem div_div (z : Int) : z / 65536 / 256 = z / 16777216 := by omega
theorem take_len {α : Type} (l : List α) (n : Nat) (h : l.length ≤ n) : List.take n l = l := List.take_of_length_le h
end Go.Proofs.Ytoekncmggjhmjaa
