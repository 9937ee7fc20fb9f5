/- The contracts of the reference's small functions of packet and message; and of the law package's own copy of a packet. -/
import Derived.Test.YtoekncmggjhmjaaIcmpA
namespace Go.Proofs.Ytoekncmggjhmjaa
open Go.RowKit

set_option maxHeartbeats 400000 in
theorem refwhole_any (p : Pkt) (Ao : Option Addr) (no co : Nat) (Ab : Option Addr) (nb cb : Nat) (w : World) :
    Calls Try.prog 75 #[.agg (pktA p Ao no co Ab nb cb)] w fun e w' => e = .returned (.bool (whole p)) ∧ Below w.heap.size w w' := by
  unfold pktA whole
  by_cases h1 : (p.part == 0) = true
  · by_cases h2 : (p.flags % 2 == 0) = true
    all_goals
      try simp only [Bool.not_eq_true] at *
      go_enter Try.func75, Try.ntmps75
      go_wp2
      go_ret
      exact ⟨by simp [h1, h2], (Below.refl _ _).alloc (Nat.le_refl _) _⟩
  · simp only [Bool.not_eq_true] at *
    go_enter Try.func75, Try.ntmps75
    go_wp2
    go_ret
    exact ⟨by simp [h1], (Below.refl _ _).alloc (Nat.le_refl _) _⟩

theorem reffault_any (m : Msg) (A : Option Addr) (n c : Nat) (w : World) :
    Calls Try.prog 33 #[.agg (msgA m A n c)] w fun e w' => e = .returned (.bool (fault m)) ∧ Below w.heap.size w w' := by
  unfold msgA fault
  by_cases h1 : (m.typ == 3) = true
  · go_enter Try.func33, Try.ntmps33
    go_wp2
    go_ret
    exact ⟨by simp [h1], (Below.refl _ _).alloc (Nat.le_refl _) _⟩
  · rw [Bool.not_eq_true] at h1
    by_cases h2 : (m.typ == 11) = true
    · go_enter Try.func33, Try.ntmps33
      go_wp2
      go_ret
      exact ⟨by simp [h2], (Below.refl _ _).alloc (Nat.le_refl _) _⟩
    · rw [Bool.not_eq_true] at h2
      go_enter Try.func33, Try.ntmps33
      go_wp2
      go_ret
      exact ⟨by simp [h1, h2], (Below.refl _ _).alloc (Nat.le_refl _) _⟩

theorem refquery_any (m : Msg) (A : Option Addr) (n c : Nat) (w : World) (hr : m.rest ≤ 4294967295) :
    Calls Try.prog 30 #[.agg (msgA m A n c)] w fun e w' => e = .returned (.tuple #[.int .i64 ((query m).1 : Nat), .bool (query m).2]) ∧ Below w.heap.size w w' := by
  unfold msgA
  by_cases h1 : m.typ = 0
  · by_cases h3 : m.code = 0
    · have hfin : query m = (m.rest / 65536, true) := by unfold query; rw [if_neg (by omega)]
      have HF := Lib.hid hfin
      have b1 := bne_yes h1
      have b3 := bne_yes h3
      clear hfin h1 h3
      go_enter Try.func30, Try.ntmps30
      go_wp2
      go_ret2
      exact ⟨by rw [HF.out]; rfl, (Below.refl _ _).alloc (Nat.le_refl _) _⟩
    · have hfin : query m = (0, false) := by unfold query; rw [if_pos (by omega)]
      have HF := Lib.hid hfin
      have b1 := bne_yes h1
      have b3 := bne_no h3
      clear hfin h1 h3
      go_enter Try.func30, Try.ntmps30
      go_wp2
      go_ret2
      exact ⟨by rw [HF.out]; rfl, (Below.refl _ _).alloc (Nat.le_refl _) _⟩
  · by_cases h2 : m.typ = 8
    · by_cases h3 : m.code = 0
      · have hfin : query m = (m.rest / 65536, true) := by unfold query; rw [if_neg (by omega)]
        have HF := Lib.hid hfin
        have b1 := bne_no h1
        have b2 := bne_yes h2
        have b3 := bne_yes h3
        clear hfin h1 h2 h3
        go_enter Try.func30, Try.ntmps30
        go_wp2
        go_ret2
        exact ⟨by rw [HF.out]; rfl, (Below.refl _ _).alloc (Nat.le_refl _) _⟩
      · have hfin : query m = (0, false) := by unfold query; rw [if_pos (by omega)]
        have HF := Lib.hid hfin
        have b1 := bne_no h1
        have b2 := bne_yes h2
        have b3 := bne_no h3
        clear hfin h1 h2 h3
        go_enter Try.func30, Try.ntmps30
        go_wp2
        go_ret2
        exact ⟨by rw [HF.out]; rfl, (Below.refl _ _).alloc (Nat.le_refl _) _⟩
    · have hfin : query m = (0, false) := by unfold query; rw [if_pos (by omega)]
      have HF := Lib.hid hfin
      have b1 := bne_no h1
      have b2 := bne_no h2
      clear hfin h1 h2
      go_enter Try.func30, Try.ntmps30
      go_wp2
      go_ret2
      exact ⟨by rw [HF.out]; rfl, (Below.refl _ _).alloc (Nat.le_refl _) _⟩

set_option maxHeartbeats 400000 in
theorem own9_any (p : Pkt) (Ao : Option Addr) (no co : Nat) (Ab : Option Addr) (nb cb : Nat) (w : World) :
    Calls Try.prog 28 #[.agg (pktA p Ao no co Ab nb cb)] w fun e w' => e = .returned (.agg (pktA p Ao no co Ab nb cb)) ∧ Below w.heap.size w w' := by
  unfold pktA
  go_enter Try.func28, Try.ntmps28
  go_wp2
  refine bodyPost_ret (results_cell1 rfl rtP4 rfl (Blk.new (w.alloc _) _ _ (by simp)) rfl) rfl ?_
  exact ⟨rfl, ((Below.refl _ _).alloc (Nat.le_refl _) _).alloc (by simp) _⟩
end Go.Proofs.Ytoekncmggjhmjaa
