/- Go's & and | at the masks of this program, as rules of the walk. -/
import Derived.Test.YtoekncmggjhmjaaKit
namespace Go.Proofs.Ytoekncmggjhmjaa
open Go.RowKit

theorem and_mask (k m : Nat) (v : Int) (hk : k < 63) (hm : m = 2 ^ k) : bits .and .i64 v ((m : Int) - 1) = v % (m : Int) := by
  subst hm
  have hp : 2 ^ k < 9223372036854775808 := Nat.lt_of_lt_of_le (Nat.pow_lt_pow_right (by omega) hk) (by decide)
  have hpos : 0 < 2 ^ k := Nat.pow_pos (by omega)
  have h1 : (BitVec.ofInt 64 (((2 ^ k : Nat) : Int) - 1)).toNat = 2 ^ k - 1 := by
    rw [show (((2 ^ k : Nat) : Int) - 1) = ((2 ^ k - 1 : Nat) : Int) from by omega, BitVec.ofInt_natCast, BitVec.toNat_ofNat]
    exact Nat.mod_eq_of_lt (by omega)
  show IntKind.i64.wrap ((BitVec.ofInt 64 v &&& BitVec.ofInt 64 (((2 ^ k : Nat) : Int) - 1)).toNat : Int) = _
  rw [BitVec.toNat_and, h1, Nat.and_two_pow_sub_one_eq_mod, BitVec.toNat_ofInt]
  have h2 : ((v % ((2 ^ 64 : Nat) : Int)).toNat % 2 ^ k : Nat) < 2 ^ k := Nat.mod_lt _ hpos
  rw [IntWalk.i64_in _ (by omega), Int.natCast_emod, Int.toNat_of_nonneg (Int.emod_nonneg _ (by decide))]
  exact Int.emod_emod_of_dvd _ (by
    refine Int.natCast_dvd_natCast.2 ?_
    exact Nat.pow_dvd_pow 2 (by omega))

theorem and_65535 (v : Int) : bits .and .i64 v 65535 = v % 65536 := and_mask 16 65536 v (by omega) rfl
theorem and_8191 (v : Int) : bits .and .i64 v 8191 = v % 8192 := and_mask 13 8192 v (by omega) rfl
theorem and_63 (v : Int) : bits .and .i64 v 63 = v % 64 := and_mask 6 64 v (by omega) rfl
theorem and_15 (v : Int) : bits .and .i64 v 15 = v % 16 := and_mask 4 16 v (by omega) rfl
theorem and_7 (v : Int) : bits .and .i64 v 7 = v % 8 := and_mask 3 8 v (by omega) rfl
theorem and_1 (v : Int) : bits .and .i64 v 1 = v % 2 := and_mask 1 2 v (by omega) rfl

theorem or_join (i : Nat) (x y : Nat) (hx : x % 2 ^ i = 0) (hy : y < 2 ^ i) (hb : x + y < 9223372036854775808) : bits .or .i64 (x : Int) (y : Int) = (x : Int) + (y : Int) := by
  have h1 : (BitVec.ofInt 64 (x : Int)).toNat = x := by rw [BitVec.ofInt_natCast, BitVec.toNat_ofNat]; exact Nat.mod_eq_of_lt (by omega)
  have h2 : (BitVec.ofInt 64 (y : Int)).toNat = y := by rw [BitVec.ofInt_natCast, BitVec.toNat_ofNat]; exact Nat.mod_eq_of_lt (by omega)
  show IntKind.i64.wrap ((BitVec.ofInt 64 (x : Int) ||| BitVec.ofInt 64 (y : Int)).toNat : Int) = _
  rw [BitVec.toNat_or, h1, h2, nat_join i x y hx hy]
  rw [IntWalk.i64_in _ (by omega)]
  omega

theorem or_byte (x y : UInt8) : bits .or .i64 ((x.toNat : Int) * 256) (y.toNat : Int) = (x.toNat : Int) * 256 + (y.toNat : Int) := by
  have hx := x.toNat_lt
  have hy := y.toNat_lt
  have := or_join 8 (x.toNat * 256) y.toNat (by omega) (by omega) (by omega)
  simpa using this

theorem u8_and15 (x : UInt8) : bits .and .u8 (x.toNat : Int) 15 = (x.toNat : Int) % 16 := by
  have hx := x.toNat_lt
  have := u8_and_nat x.toNat 15 (by omega) (by omega)
  rw [nat_mask4] at this
  simpa using this

attribute [go_sem] and_65535 and_8191 and_63 and_15 and_7 and_1 or_byte u8_and15
end Go.Proofs.Ytoekncmggjhmjaa
