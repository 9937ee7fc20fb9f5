/- Plain words for what is left to show behind a run. -/
import Derived.Test.YtoekncmggjhmjaaKn
namespace Go.Proofs.Ytoekncmggjhmjaa
open Go.RowKit

theorem str_toList (xs : List UInt8) : ByteArray.toList ⟨xs.toArray⟩ = xs := by
  have h : ∀ (n i : Nat) (r : List UInt8), xs.length - i = n → ByteArray.toList.loop ⟨xs.toArray⟩ i r = r.reverse ++ xs.drop i := by
    intro n
    induction n with
    | zero =>
      intro i r hn
      unfold ByteArray.toList.loop
      rw [if_neg (by show ¬ i < xs.toArray.size; simp; omega), List.drop_of_length_le (by omega)]
      simp
    | succ n ih =>
      intro i r hn
      unfold ByteArray.toList.loop
      rw [if_pos (by show i < xs.toArray.size; simp; omega), ih (i + 1) _ (by omega)]
      have hi : i < xs.length := by omega
      rw [List.drop_eq_getElem_cons hi]
      simp [ByteArray.get!, hi]
  have := h xs.length 0 [] (by omega)
  simpa [ByteArray.toList] using this

theorem at8_getD (xs : List UInt8) (i : Nat) : at8 xs i = (xs.getD i 0).toNat := by
  unfold at8
  by_cases h : i < xs.length
  · rw [List.drop_eq_getElem_cons h, List.take_succ_cons, List.take_zero, List.getD_eq_getElem?_getD, List.getElem?_eq_getElem h]
    simp only [beA, List.foldl_cons, List.foldl_nil, Option.getD_some]
    omega
  · rw [List.drop_of_length_le (by omega)]
    simp [beA, List.getElem?_eq_none (by omega : xs.length ≤ i)]

theorem wrap64_u8 (x : UInt8) : IntKind.i64.wrap (x.toNat : Int) = (x.toNat : Int) := by
  have := u8le x
  exact IntWalk.i64_in _ (by omega)

theorem str_same {a b : List UInt8} (h : a = b) : (ByteArray.toList ⟨a.toArray⟩ == ByteArray.toList ⟨b.toArray⟩) = true := by
  rw [h]; exact beq_self_eq_true _

theorem ACall.truly {P : Program} {g : FuncId} {xs : List AV} {L L' : List (Nat × AObj)} {nx nx' : Nat} {b : Bool} (h : ACall P g xs L nx (.val (.bool b)) L' nx') (hb : b = true) : ACall P g xs L nx (.val (.bool true)) L' nx' := by
  rw [hb] at h; exact h
end Go.Proofs.Ytoekncmggjhmjaa
