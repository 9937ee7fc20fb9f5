/- Words for what is left to show behind a run. -/
import Derived.Test.YtmilcpejchjleaaOp
namespace Go.Proofs.Ytmilcpejchjleaa
open Go.RowKit

theorem str_toList (xs : List UInt8) : ByteArray.toList ⟨xs.toArray⟩ = xs := by
  have h : ∀ (n i : Nat) (r : List UInt8), xs.length - i = n → ByteArray.toList.loop ⟨xs.toArray⟩ i r = r.reverse ++ xs.drop i := by
    intro n
    induction n with
    | zero =>
      intro i r hn
      unfold ByteArray.toList.loop
      rw [if_neg (by show ¬ i < xs.toArray.size; simp; omega), List.drop_of_length_le (by omega)]
      simp
    | succ n ih =>
      intro i r hn
      unfold ByteArray.toList.loop
      rw [if_pos (by show i < xs.toArray.size; simp; omega), ih (i + 1) _ (by omega)]
      have hi : i < xs.length := by omega
      rw [List.drop_eq_getElem_cons hi]
      simp [ByteArray.get!, hi]
  have := h xs.length 0 [] (by omega)
  simpa [ByteArray.toList] using this

theorem wu8 (z : Int) : IntKind.u8.wrap z = z % 256 := by simp [IntKind.wrap, IntKind.bits, IntKind.signed]
theorem wu32 (z : Int) : IntKind.u32.wrap z = z % 4294967296 := by simp [IntKind.wrap, IntKind.bits, IntKind.signed]
theorem fd256 (z : Int) : Int.fdiv z 256 = z / 256 := Int.fdiv_eq_ediv_of_nonneg _ (by decide)
theorem fd16 (z : Int) : Int.fdiv z 16 = z / 16 := Int.fdiv_eq_ediv_of_nonneg _ (by decide)
theorem fd65536 (z : Int) : Int.fdiv z 65536 = z / 65536 := Int.fdiv_eq_ediv_of_nonneg _ (by decide)
theorem w64 (z : Int) (h : -9223372036854775808 ≤ z ∧ z ≤ 9223372036854775807) : IntKind.i64.wrap z = z := IntWalk.i64_in z h
theorem ACall.truly {P : Program} {g : FuncId} {xs : List AV} {L L' : List (Nat × AObj)} {nx nx' : Nat} {b : Bool} (h : ACall P g xs L nx (.val (.bool b)) L' nx') (hb : b = true) : ACall P g xs L nx (.val (.bool true)) L' nx' := by
  rw [hb] at h; exact h
theorem wf_u8 {z : Int} (h : (Lit.int .u8 z).wf = true) : 0 ≤ z ∧ z < 256 := by
  simp [Lit.wf, IntKind.min, IntKind.max, IntKind.signed, IntKind.bits] at h; omega
theorem wf_u32 {z : Int} (h : (Lit.int .u32 z).wf = true) : 0 ≤ z ∧ z < 4294967296 := by
  simp [Lit.wf, IntKind.min, IntKind.max, IntKind.signed, IntKind.bits] at h; omega
theorem wf_i64 {z : Int} (h : (Lit.int .i64 z).wf = true) : -9223372036854775808 ≤ z ∧ z ≤ 9223372036854775807 := by
  simp [Lit.wf, IntKind.min, IntKind.max, IntKind.signed, IntKind.bits] at h; omega
end Go.Proofs.Ytmilcpejchjleaa
