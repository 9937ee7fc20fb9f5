/- What a packet's sizes are, by the ways that they can fail. -/
import Derived.Test.YtoekncmggjhmjaaPm
import Derived.Test.YtoekncmggjhmjaaRp
namespace Go.Proofs.Ytoekncmggjhmjaa

theorem sizesE_short (ys : List UInt8) (n : Nat) (h : n < 20) : sizesE ys n = 3 := by
  unfold sizesE
  simp only [blt_iff, decide_eq_true h]; rfl
theorem sizesE_form (ys : List UInt8) (n : Nat) (h0 : 20 ≤ n) (h1 : ¬ (ys.getD 0 0).toNat / 16 = 4 ∨ hdr ys < 20) : sizesE ys n = 4 := by
  unfold sizesE
  have : (!decide ((ys.getD 0 0).toNat / 16 = 4) || decide (hdr ys < 20)) = true := by
    rcases h1 with h | h
    · rw [decide_eq_false h]; rfl
    · rw [decide_eq_true h]; exact Bool.or_true _
  simp only [blt_iff, beq_iff, decide_eq_false (show ¬ n < 20 from by omega), this]; rfl
theorem sizesE_long (ys : List UInt8) (n : Nat) (h0 : 20 ≤ n) (h1 : (ys.getD 0 0).toNat / 16 = 4) (h2 : 20 ≤ hdr ys) (h3 : n < hdr ys) : sizesE ys n = 3 := by
  unfold sizesE
  simp only [blt_iff, beq_iff, decide_eq_false (show ¬ n < 20 from by omega), decide_eq_true h1, decide_eq_false (show ¬ hdr ys < 20 from by omega), decide_eq_true h3]
  rfl
theorem sizesE_form2 (ys : List UInt8) (n : Nat) (h0 : 20 ≤ n) (h1 : (ys.getD 0 0).toNat / 16 = 4) (h2 : 20 ≤ hdr ys) (h3 : hdr ys ≤ n) (h4 : ofL (ys.take (hdr ys)) = 0) (h5 : at16 ys 2 < hdr ys) : sizesE ys n = 4 := by
  unfold sizesE
  simp only [blt_iff, beq_iff, decide_eq_false (show ¬ n < 20 from by omega), decide_eq_true h1, decide_eq_false (show ¬ hdr ys < 20 from by omega), decide_eq_false (show ¬ n < hdr ys from by omega), decide_eq_true h4, decide_eq_true h5]
  rfl
theorem sizesE_long2 (ys : List UInt8) (n : Nat) (h0 : 20 ≤ n) (h1 : (ys.getD 0 0).toNat / 16 = 4) (h2 : 20 ≤ hdr ys) (h3 : hdr ys ≤ n) (h4 : ofL (ys.take (hdr ys)) = 0) (h5 : hdr ys ≤ at16 ys 2) (h6 : n < at16 ys 2) : sizesE ys n = 3 := by
  unfold sizesE
  simp only [blt_iff, beq_iff, decide_eq_false (show ¬ n < 20 from by omega), decide_eq_true h1, decide_eq_false (show ¬ hdr ys < 20 from by omega), decide_eq_false (show ¬ n < hdr ys from by omega), decide_eq_true h4, decide_eq_false (show ¬ at16 ys 2 < hdr ys from by omega), decide_eq_true h6]
  rfl
end Go.Proofs.Ytoekncmggjhmjaa
