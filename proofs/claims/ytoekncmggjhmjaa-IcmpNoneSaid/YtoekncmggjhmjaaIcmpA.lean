/- The contracts of the small functions of packages ip4 and icmp. -/
import Derived.Test.YtoekncmggjhmjaaSpec
import Derived.Test.YtoekncmggjhmjaaSumWalk
namespace Go.Proofs.Ytoekncmggjhmjaa
open Go.RowKit

set_option maxHeartbeats 400000 in
theorem whole_any (p : Pkt) (Ao : Option Addr) (no co : Nat) (Ab : Option Addr) (nb cb : Nat) (w : World) :
    Calls Try.prog 38 #[.agg (pktA p Ao no co Ab nb cb)] w fun e w' => e = .returned (.bool (whole p)) ∧ Below w.heap.size w w' := by
  unfold pktA whole
  by_cases h1 : (p.part == 0) = true
  · by_cases h2 : (p.flags % 2 == 0) = true
    all_goals
      try simp only [Bool.not_eq_true] at *
      go_enter Try.func38, Try.ntmps38
      go_wp2
      go_ret
      exact ⟨by simp [h1, h2], (Below.refl _ _).alloc (Nat.le_refl _) _⟩
  · simp only [Bool.not_eq_true] at *
    go_enter Try.func38, Try.ntmps38
    go_wp2
    go_ret
    exact ⟨by simp [h1], (Below.refl _ _).alloc (Nat.le_refl _) _⟩

set_option maxHeartbeats 400000 in
theorem fits_any (A : Option Addr) (n c : Nat) (xs : List UInt8) (lo hi : Nat) (w : World) (hn : n ≤ 100000000) (h : Rd w lo hi A n c xs) :
    Calls Try.prog 68 #[.slice A n c] w fun e w' => e = .returned (.bool (ofL xs == 0)) ∧ ∃ k, w' = w.drewN k := by
  go_enter Try.func68, Try.ntmps68
  go_wp2_with fail
  refine (of_any A n c xs lo hi w hn h).mono ?_
  rintro e w1 ⟨rfl, k, rfl⟩
  go_wp2_with fail
  go_ret
  refine ⟨?_, k, rfl⟩
  have e : ((ofL xs : Int) == 0) = (ofL xs == 0) := by rw [Bool.eq_iff_iff]; simp
  rw [← e]
  rfl

theorem within_any (v : Int) (w : World) :
    Calls Try.prog 78 #[.int .i64 v] w fun e w' => e = .returned (.bool (isByte v)) ∧ Sm w w' := by
  unfold isByte
  by_cases h1 : 0 ≤ v
  · by_cases h2 : v ≤ 255
    all_goals
      go_enter Try.func78, Try.ntmps78
      go_wp2
      go_ret
      exact ⟨by simp [h1, h2], Sm.refl _⟩
  · have h3 : decide (0 ≤ v) = false := by simpa using h1
    go_enter Try.func78, Try.ntmps78
    go_wp2
    go_ret
    exact ⟨by simp, Sm.refl _⟩

/-- what is asked of a fault -/
theorem fault_any (m : Msg) (A : Option Addr) (n c : Nat) (w : World) :
    Calls Try.prog 32 #[.agg (msgA m A n c)] w fun e w' => e = .returned (.bool (fault m)) ∧ Below w.heap.size w w' := by
  unfold msgA fault
  by_cases h1 : (m.typ == 3) = true
  · go_enter Try.func32, Try.ntmps32
    go_wp2
    go_ret
    exact ⟨by simp [h1], (Below.refl _ _).alloc (Nat.le_refl _) _⟩
  · rw [Bool.not_eq_true] at h1
    by_cases h2 : (m.typ == 11) = true
    · go_enter Try.func32, Try.ntmps32
      go_wp2
      go_ret
      exact ⟨by simp [h2], (Below.refl _ _).alloc (Nat.le_refl _) _⟩
    · rw [Bool.not_eq_true] at h2
      go_enter Try.func32, Try.ntmps32
      go_wp2
      go_ret
      exact ⟨by simp [h1, h2], (Below.refl _ _).alloc (Nat.le_refl _) _⟩

theorem query_any (m : Msg) (A : Option Addr) (n c : Nat) (w : World) (hr : m.rest ≤ 4294967295) :
    Calls Try.prog 29 #[.agg (msgA m A n c)] w fun e w' => e = .returned (.tuple #[.int .i64 ((query m).1 : Nat), .bool (query m).2]) ∧ Below w.heap.size w w' := by
  unfold msgA
  by_cases h1 : m.typ = 8
  · by_cases h3 : m.code = 0
    · have hfin : query m = (m.rest / 65536, true) := by unfold query; rw [if_neg (by omega)]
      have HF := Lib.hid hfin
      have b1 := bne_yes h1
      have b3 := bne_yes h3
      clear hfin h1 h3
      go_enter Try.func29, Try.ntmps29
      go_wp2
      go_ret2
      exact ⟨by rw [HF.out]; rfl, (Below.refl _ _).alloc (Nat.le_refl _) _⟩
    · have hfin : query m = (0, false) := by unfold query; rw [if_pos (by omega)]
      have HF := Lib.hid hfin
      have b1 := bne_yes h1
      have b3 := bne_no h3
      clear hfin h1 h3
      go_enter Try.func29, Try.ntmps29
      go_wp2
      go_ret2
      exact ⟨by rw [HF.out]; rfl, (Below.refl _ _).alloc (Nat.le_refl _) _⟩
  · by_cases h2 : m.typ = 0
    · by_cases h3 : m.code = 0
      · have hfin : query m = (m.rest / 65536, true) := by unfold query; rw [if_neg (by omega)]
        have HF := Lib.hid hfin
        have b1 := bne_no h1
        have b2 := bne_yes h2
        have b3 := bne_yes h3
        clear hfin h1 h2 h3
        go_enter Try.func29, Try.ntmps29
        go_wp2
        go_ret2
        exact ⟨by rw [HF.out]; rfl, (Below.refl _ _).alloc (Nat.le_refl _) _⟩
      · have hfin : query m = (0, false) := by unfold query; rw [if_pos (by omega)]
        have HF := Lib.hid hfin
        have b1 := bne_no h1
        have b2 := bne_yes h2
        have b3 := bne_no h3
        clear hfin h1 h2 h3
        go_enter Try.func29, Try.ntmps29
        go_wp2
        go_ret2
        exact ⟨by rw [HF.out]; rfl, (Below.refl _ _).alloc (Nat.le_refl _) _⟩
    · have hfin : query m = (0, false) := by unfold query; rw [if_pos (by omega)]
      have HF := Lib.hid hfin
      have b1 := bne_no h1
      have b2 := bne_no h2
      clear hfin h1 h2
      go_enter Try.func29, Try.ntmps29
      go_wp2
      go_ret2
      exact ⟨by rw [HF.out]; rfl, (Below.refl _ _).alloc (Nat.le_refl _) _⟩
end Go.Proofs.Ytoekncmggjhmjaa
