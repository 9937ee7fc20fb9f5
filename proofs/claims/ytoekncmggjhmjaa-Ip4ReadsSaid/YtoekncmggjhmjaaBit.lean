/- One bit turned: the place, the byte. -/
import Derived.Test.YtoekncmggjhmjaaUdpB
namespace Go.Proofs.Ytoekncmggjhmjaa

theorem bit_j (bit : Int) (h0 : 0 ≤ bit) (h1 : bit ≤ 1000000) : (0 : Nat) + Int.toNat (IntKind.wrap IntKind.i64 (Int.tdiv bit (8 : Int))) = bit.toNat / 8 := by
  rw [Int.tdiv_eq_ediv_of_nonneg h0, w64 _ (by omega)]
  omega

theorem bit_q (bit : Int) (h0 : 0 ≤ bit) (h1 : bit ≤ 1000000) : IntKind.wrap IntKind.i64 (Int.tdiv bit (8 : Int)) = bit / 8 := by
  rw [Int.tdiv_eq_ediv_of_nonneg h0, w64 _ (by omega)]

theorem xor_bd (x y : Int) : 0 ≤ bits .xor .u8 x y ∧ bits .xor .u8 x y < 256 := by
  show 0 ≤ IntKind.u8.wrap _ ∧ IntKind.u8.wrap _ < 256
  rw [wu8]; omega

theorem bit_pow (bit : Int) (h0 : 0 ≤ bit) : IntKind.wrap IntKind.u8 ((1 : Int) * (2 : Int) ^ min (Int.toNat (IntKind.wrap IntKind.u64 (bits BinOp.and IntKind.i64 bit (7 : Int)))) (8 : Nat)) = ((2 ^ (bit.toNat % 8) : Nat) : Int) := by
  rw [and_7]
  have h1 : IntKind.u64.wrap (bit % 8) = bit % 8 := IntWalk.u64_in _ (by omega)
  rw [h1, show Int.toNat (bit % 8) = bit.toNat % 8 from by omega]
  have hk : bit.toNat % 8 < 8 := by omega
  generalize bit.toNat % 8 = k at hk
  have hm : min k 8 = k := by omega
  have hp := two_pow_le k hk
  rw [hm, wu8, Int.one_mul, show ((2 : Int) ^ k) = ((2 ^ k : Nat) : Int) from by norm_cast]
  omega

theorem xor_turned (x : UInt8) (k : Nat) (hk : k < 8) : Turned x (UInt8.ofNat (Int.toNat (bits BinOp.xor IntKind.u8 (x.toNat : Int) ((2 ^ k : Nat) : Int)))) := by
  have hx := x.toNat_lt
  have hp := two_pow_le k hk
  have e : bits BinOp.xor IntKind.u8 (x.toNat : Int) ((2 ^ k : Nat) : Int) = ((x.toNat ^^^ 2 ^ k : Nat) : Int) := by
    show IntKind.u8.wrap ((BitVec.ofInt 8 (x.toNat : Int) ^^^ BitVec.ofInt 8 ((2 ^ k : Nat) : Int)).toNat : Int) = _
    have h1 : (BitVec.ofInt 8 (x.toNat : Int)).toNat = x.toNat := by rw [BitVec.ofInt_natCast, BitVec.toNat_ofNat]; exact Nat.mod_eq_of_lt (by omega)
    have h2 : (BitVec.ofInt 8 ((2 ^ k : Nat) : Int)).toNat = 2 ^ k := by rw [BitVec.ofInt_natCast, BitVec.toNat_ofNat]; exact Nat.mod_eq_of_lt (by omega)
    rw [BitVec.toNat_xor, h1, h2, wu8]
    have h3 : x.toNat ^^^ 2 ^ k < 2 ^ 8 := Nat.xor_lt_two_pow (by omega) (by omega)
    omega
  have h3 : x.toNat ^^^ 2 ^ k < 2 ^ 8 := Nat.xor_lt_two_pow (by omega) (by omega)
  rw [e, Int.toNat_natCast]
  refine ⟨k, hk, ?_⟩
  rw [UInt8.toNat_ofNat', Nat.mod_eq_of_lt h3]
  exact flip_nat x.toNat (by omega) k hk

theorem at16_set (xs : List UInt8) (i j : Nat) (v : UInt8) (h : i + 2 ≤ xs.length) (h0 : j ≠ i) (h1 : j ≠ i + 1) : at16 (xs.set j v) i = at16 xs i := by
  have a : ∃ a, xs[i]? = some a := ⟨_, List.getElem?_eq_getElem (by omega)⟩
  have b : ∃ b, xs[i + 1]? = some b := ⟨_, List.getElem?_eq_getElem (by omega)⟩
  obtain ⟨a, ha⟩ := a
  obtain ⟨b, hb⟩ := b
  rw [at16_two xs i a b ha hb, at16_two (xs.set j v) i a b (by rw [List.getElem?_set_ne h0]; exact ha) (by rw [List.getElem?_set_ne h1]; exact hb)]

theorem at16_zero (xs : List UInt8) (i : Nat) (h : i + 2 ≤ xs.length) (hz : at16 xs i = 0) : xs.getD i 0 = 0 ∧ xs.getD (i + 1) 0 = 0 := by
  have a : ∃ a, xs[i]? = some a := ⟨_, List.getElem?_eq_getElem (by omega)⟩
  have b : ∃ b, xs[i + 1]? = some b := ⟨_, List.getElem?_eq_getElem (by omega)⟩
  obtain ⟨a, ha⟩ := a
  obtain ⟨b, hb⟩ := b
  rw [at16_two xs i a b ha hb] at hz
  rw [List.getD_eq_getElem?_getD, List.getD_eq_getElem?_getD, ha, hb]
  exact ⟨UInt8.toNat_inj.1 (by show a.toNat = 0; omega), UInt8.toNat_inj.1 (by show b.toNat = 0; omega)⟩
end Go.Proofs.Ytoekncmggjhmjaa
