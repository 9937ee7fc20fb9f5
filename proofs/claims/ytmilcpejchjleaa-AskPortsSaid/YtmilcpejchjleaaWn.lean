/- Words for what is left to show behind a run. -/
import Derived.Test.YtmilcpejchjleaaOp
namespace Go.Proofs.Ytmilcpejchjleaa
open Go.RowKit

theorem str_toList (xs : List UInt8) : ByteArray.toList ⟨xs.toArray⟩ = xs := by
  have h : ∀ (n i : Nat) (r : List UInt8), xs.length - i = n → ByteArray.toList.loop ⟨xs.toArray⟩ i r = r.reverse ++ xs.drop i := by
    intro n
    induction n with
    | zero =>
      intro i r hn
      unfold ByteArray.toList.loop
      rw [if_neg (by show ¬ i < xs.toArray.size; simp; omega), List.drop_of_length_le (by omega)]
      simp
    | succ n ih =>
      intro i r hn
      unfold ByteArray.toList.loop
      rw [if_pos (by show i < xs.toArray.size; simp; omega), ih (i + 1) _ (by omega)]
      have hi : i < xs.length := by omega
      rw [List.drop_eq_getElem_cons hi]
      simp [ByteArray.get!, hi]
  have := h xs.length 0 [] (by omega)
  simpa [ByteArray.toList] using this

theorem wu8 (z : Int) : IntKind.u8.wrap z = z % 256 := by simp [IntKind.wrap, IntKind.bits, IntKind.signed]
theorem wu32 (z : Int) : IntKind.u32.wrap z = z % 4294967296 := by simp [IntKind.wrap, IntKind.bits, IntKind.signed]
theorem fd256 (z : Int) : Int.fdiv z 256 = z / 256 := Int.fdiv_eq_ediv_of_nonneg _ (by decide)
theorem fd16 (z : Int) : Int.fdiv z 16 = z / 16 := Int.fdiv_eq_ediv_of_nonneg _ (by decide)
theorem fd65536 (z : Int) : Int.fdiv z 65536 = z / 65536 := Int.fdiv_eq_ediv_of_nonneg _ (by decide)
theorem w64 (z : Int) (h : -9223372036854775808 ≤ z ∧ z ≤ 9223372036854775807) : IntKind.i64.wrap z = z := IntWalk.i64_in z h
theorem ACall.truly {P : Program} {g : FuncId} {xs : List AV} {L L' : List (Nat × AObj)} {nx nx' : Nat} {b : Bool} (h : ACall P g xs L nx (.val (.bool b)) L' nx') (hb : b = true) : ACall P g xs L nx (.val (.bool true)) L' nx' := by
  rw [hb] at h; exact h
theorem isB (z : Int) : isByteAV (.val (.int .u8 z)) ↔ (0 ≤ z ∧ z < 256) := Iff.rfl
theorem u8rt (z : Int) : ((UInt8.toNat (UInt8.ofNat (Int.toNat (z % 256))) : Nat) : Int) = z % 256 := by
  rw [UInt8.toNat_ofNat']; omega
theorem mem_two {P : AV → Prop} {a b : AV} (ha : P a) (hb : P b) : ∀ x, x ∈ [a, b] → P x := by
  intro x hx
  simp only [List.mem_cons, List.not_mem_nil, or_false] at hx
  rcases hx with rfl | rfl
  · exact ha
  · exact hb
theorem mem_four {P : AV → Prop} {a b c d : AV} (ha : P a) (hb : P b) (hc : P c) (hd : P d) : ∀ x, x ∈ [a, b, c, d] → P x := by
  intro x hx
  simp only [List.mem_cons, List.not_mem_nil, or_false] at hx
  rcases hx with rfl | rfl | rfl | rfl
  · exact ha
  · exact hb
  · exact hc
  · exact hd
theorem and_mask (z : Int) (k : Nat) (hk : k < 64) (h0 : 0 ≤ z) (h1 : z ≤ 9223372036854775807) : bits .and .i64 z ((2 ^ k - 1 : Nat) : Int) = z % ((2 ^ k : Nat) : Int) := by
  obtain ⟨n, rfl⟩ := Int.eq_ofNat_of_zero_le h0
  have hn : n < 18446744073709551616 := by omega
  show IntKind.i64.wrap ((BitVec.ofInt 64 (n : Int) &&& BitVec.ofInt 64 ((2 ^ k - 1 : Nat) : Int)).toNat : Int) = _
  have hp : 2 ^ k < 18446744073709551616 := Nat.pow_lt_pow_right (a := 2) (by omega) hk
  have h2 : (BitVec.ofInt 64 (n : Int)).toNat = n := by rw [BitVec.ofInt_natCast, BitVec.toNat_ofNat]; exact Nat.mod_eq_of_lt (by omega)
  have h3 : (BitVec.ofInt 64 ((2 ^ k - 1 : Nat) : Int)).toNat = 2 ^ k - 1 := by rw [BitVec.ofInt_natCast, BitVec.toNat_ofNat]; exact Nat.mod_eq_of_lt (by omega)
  have hm : n % 2 ^ k ≤ n := Nat.mod_le _ _
  rw [BitVec.toNat_and, h2, h3, Nat.and_two_pow_sub_one_eq_mod, IntWalk.i64_in _ (by omega)]
  omega
theorem and15 (z : Int) (h0 : 0 ≤ z) (h1 : z ≤ 9223372036854775807) : bits .and .i64 z 15 = z % 16 := and_mask z 4 (by omega) h0 h1
theorem and7 (z : Int) (h0 : 0 ≤ z) (h1 : z ≤ 9223372036854775807) : bits .and .i64 z 7 = z % 8 := and_mask z 3 (by omega) h0 h1
theorem and127 (z : Int) (h0 : 0 ≤ z) (h1 : z ≤ 9223372036854775807) : bits .and .i64 z 127 = z % 128 := and_mask z 7 (by omega) h0 h1
theorem and65535 (z : Int) (h0 : 0 ≤ z) (h1 : z ≤ 9223372036854775807) : bits .and .i64 z 65535 = z % 65536 := and_mask z 16 (by omega) h0 h1
theorem wu64 (z : Int) (h : 0 ≤ z ∧ z ≤ 18446744073709551615) : IntKind.u64.wrap z = z := by
  have : IntKind.u64.wrap z = z % 18446744073709551616 := by simp [IntKind.wrap, IntKind.bits, IntKind.signed]
  rw [this]; omega
theorem wf_u8 {z : Int} (h : (Lit.int .u8 z).wf = true) : 0 ≤ z ∧ z < 256 := by
  simp [Lit.wf, IntKind.min, IntKind.max, IntKind.signed, IntKind.bits] at h; omega
theorem wf_u32 {z : Int} (h : (Lit.int .u32 z).wf = true) : 0 ≤ z ∧ z < 4294967296 := by
  simp [Lit.wf, IntKind.min, IntKind.max, IntKind.signed, IntKind.bits] at h; omega
theorem wf_i64 {z : Int} (h : (Lit.int .i64 z).wf = true) : -9223372036854775808 ≤ z ∧ z ≤ 9223372036854775807 := by
  simp [Lit.wf, IntKind.min, IntKind.max, IntKind.signed, IntKind.bits] at h; omega
end Go.Proofs.Ytmilcpejchjleaa
