/- The contracts of package sum16, and of the references' sum. -/
import Derived.Test.YtoekncmggjhmjaaBits
import Derived.Test.YtoekncmggjhmjaaSum
import Derived.Test.YtoekncmggjhmjaaOctet
import Derived.BigQuiet
import Derived.Deep.QuietTactic
namespace Go.Proofs.Ytoekncmggjhmjaa
open Go.RowKit

set_option maxHeartbeats 400000 in
theorem add_any (a b : Int) (w : World) (h1 : 0 ≤ a) (ha : a ≤ 65535) (h2 : 0 ≤ b) (hb : b ≤ 65535) :
    Calls Try.prog 106 #[.int .i64 a, .int .i64 b] w fun e w' => e = .returned (.int .i64 (add16 a.toNat b.toNat : Nat)) ∧ w = w' := by
  go_enter Try.func106, Try.ntmps106
  go_wp2
  go_ret
  refine ⟨?_, rfl⟩
  simp only [add16]
  simp
  omega

theorem quiet_add_left {P : Program} {f : FuncId} {args : Array Value} {w : World} {a n : Nat} {v : Value}
    (h : Calls P f args (w.drewN (a + n)) fun e w' => e = .returned v ∧ w.drewN (a + n) = w') :
    Calls P f args (w.drewN (a + n)) fun e w'' => e = .returned v ∧ ∃ m, w'' = w.drewN (a + m) :=
  h.mono fun _ _ ⟨he, hm⟩ => ⟨he, n, hm.symm⟩

theorem pairs_any (s0 : Nat) (A : Option Addr) (n c : Nat) (xs : List UInt8) (lo hi : Nat) (w : World) (hs : s0 ≤ 65535) (hn : n ≤ 100000000) (h : Rd w lo hi A n c xs) :
    Calls Try.prog 102 #[.int .i64 (s0 : Int), .slice A n c] w fun e w' => e = .returned (.int .i64 (prs s0 xs : Nat)) ∧ ∃ k, w' = w.drewN k := by
  have hmax := h.max
  have hcap := h.cap
  have hlen := Lib.hid h.len
  have hat := Lib.hid h.at_
  clear h
  unfold maxLen at hmax
  go_enter Try.func102, Try.ntmps102
  go_wp2
  go_loopw [0, 5] (fun s i wr => ∃ (s' j : Nat), s' ≤ 65535 ∧ j ≤ n ∧ s = .int .i64 (s' : Int) ∧ i = .int .i64 (j : Int) ∧ Hid (prs s' (xs.drop j) = prs s0 xs ∧ j % 2 = 0) ∧ ∃ k, wr = w.drewN k)
    (fun _ i _ => n - (intOf i).toNat)
  case atStart => exact ⟨s0, 0, hs, by omega, rfl, rfl, ⟨by simp, rfl⟩, 0, rfl⟩
  case round =>
    obtain ⟨s', j, hs', hj, rfl, rfl, HP, k, rfl⟩ := hrel
    by_cases hlt : j + 1 < n
    · obtain ⟨g, o, rfl, _, _, hc⟩ := hat.out (by omega)
      obtain ⟨x, hx⟩ : ∃ x, xs[j]? = some x := ⟨_, List.getElem?_eq_getElem (by have := hlen.out; omega)⟩
      obtain ⟨y, hy⟩ : ∃ x, xs[j + 1]? = some x := ⟨_, List.getElem?_eq_getElem (by have := hlen.out; omega)⟩
      have c1 := hc _ _ hx
      have c2 := hc _ _ hy
      clear hc
      have HX := Lib.hid hx
      have HY := Lib.hid hy
      clear hx hy
      unfold bv at c1 c2
      have hx8 := u8le x
      have hy8 := u8le y
      go_wp2_with fail
      go_quiet ((go_at_call 106; exact quiet_add_left (add_any _ _ _ (by omega) (by omega) (by omega) (by omega))))
      go_wp2
      go_roundw
      case rel =>
        refine ⟨add16 s' (x.toNat * 256 + y.toNat), j + 2, add16_le _ _ hs' (by omega), by omega, ?_, by go_num, ?_, _, rfl⟩
        · congr 3
        · exact ⟨by rw [← prs_two s' xs j x y HX.out HY.out]; exact HP.out.1, by have := HP.out.2; omega⟩
      case measure => simp [intOf]; omega
    · by_cases h1 : j + 1 = n
      · obtain ⟨g, o, rfl, _, _, hc⟩ := hat.out (by omega)
        obtain ⟨x, hx⟩ : ∃ x, xs[j]? = some x := ⟨_, List.getElem?_eq_getElem (by have := hlen.out; omega)⟩
        have c1 := hc _ _ hx
        rw [show j = n - 1 from by omega] at c1
        clear hc
        have hfin : prs s' (xs.drop j) = add16 s' (x.toNat * 256) := prs_one s' xs j x hx (by have := hlen.out; omega)
        rw [HP.out.1] at hfin
        have hodd : ((n : Int) % 2 == 1) = true := by have := HP.out.2; simp; omega
        have HF := Lib.hid hfin
        have hle : n ≤ j + 1 := by omega
        have hpos : 1 ≤ n := by omega
        clear hx hfin h1 hlt HP hat hlen
        unfold bv at c1
        have hx8 := u8le x
        go_wp2_with (go_at_call 106; refine (add_any _ _ _ (by omega) (by omega) (by omega) (by omega)).mono ?_; rintro e w' ⟨rfl, rfl⟩)
        go_ret
        refine ⟨?_, k, rfl⟩
        rw [HF.out]
        congr 4
      · have hodd : ((n : Int) % 2 == 1) = false := by have := HP.out.2; simp; omega
        have hfin : s' = prs s0 xs := by rw [← HP.out.1, List.drop_of_length_le (by have := hlen.out; omega)]; rfl
        have HF := Lib.hid hfin
        have hle : n ≤ j := by omega
        clear hfin h1 hlt HP hat hlen
        go_wp2
        go_ret
        exact ⟨by rw [HF.out]; rfl, k, rfl⟩

theorem of_any (A : Option Addr) (n c : Nat) (xs : List UInt8) (lo hi : Nat) (w : World) (hn : n ≤ 100000000) (h : Rd w lo hi A n c xs) :
    Calls Try.prog 80 #[.slice A n c] w fun e w' => e = .returned (.int .i64 (ofL xs : Nat)) ∧ ∃ k, w' = w.drewN k := by
  have hle := prs_le xs 0 (by omega)
  go_enter Try.func80, Try.ntmps80
  go_wp2_with (go_at_call 102; refine (pairs_any 0 A n c xs lo hi _ (by omega) hn h).mono ?_; rintro e w' ⟨rfl, k, rfl⟩)
  go_ret
  refine ⟨?_, k, rfl⟩
  have e : ((65535 - prs 0 xs : Nat) : Int) = 65535 - (prs 0 xs : Nat) := by omega
  simp only [ofL, e]
  rfl

set_option maxHeartbeats 400000 in
theorem refadd_any (a b : Int) (w : World) (h1 : 0 ≤ a) (ha : a ≤ 65535) (h2 : 0 ≤ b) (hb : b ≤ 65535) :
    Calls Try.prog 98 #[.int .i64 a, .int .i64 b] w fun e w' => e = .returned (.int .i64 (add16 a.toNat b.toNat : Nat)) ∧ w = w' := by
  go_enter Try.func98, Try.ntmps98
  go_wp2
  go_ret
  refine ⟨?_, rfl⟩
  simp only [add16]
  simp
  omega

theorem refof_any (A : Option Addr) (n c : Nat) (xs : List UInt8) (lo hi : Nat) (w : World) (hn : n ≤ 100000000) (h : Rd w lo hi A n c xs) :
    Calls Try.prog 65 #[.slice A n c] w fun e w' => e = .returned (.int .i64 (ofL xs : Nat)) ∧ w = w' := by
  have hmax := h.max
  have hcap := h.cap
  have hlen := Lib.hid h.len
  have hat := Lib.hid h.at_
  clear h
  go_enter Try.func65, Try.ntmps65
  go_wp2
  go_loop [3, 4] (fun s i => ∃ (s' j : Nat), s' ≤ 65535 ∧ j ≤ n + 1 ∧ s = .int .i64 (s' : Int) ∧ i = .int .i64 (j : Int) ∧ Hid (prs s' (xs.drop j) = prs 0 xs))
    (fun _ i => n + 2 - (intOf i).toNat)
  case atStart => exact ⟨0, 0, by omega, by omega, rfl, rfl, by unfold Hid; simp⟩
  case round =>
    obtain ⟨s', j, hs', hj, rfl, rfl, HP⟩ := hrel
    by_cases hlt : j + 1 < n
    · obtain ⟨g, o, rfl, _, _, hc⟩ := hat.out (by omega)
      obtain ⟨x, hx⟩ : ∃ x, xs[j]? = some x := ⟨_, List.getElem?_eq_getElem (by have := hlen.out; omega)⟩
      obtain ⟨y, hy⟩ : ∃ x, xs[j + 1]? = some x := ⟨_, List.getElem?_eq_getElem (by have := hlen.out; omega)⟩
      have c1 := hc _ _ hx
      have c2 := hc _ _ hy
      clear hc
      have HX := Lib.hid hx
      have HY := Lib.hid hy
      clear hx hy
      unfold bv at c1 c2
      have hx8 := u8le x
      have hy8 := u8le y
      go_wp2_with (go_at_call 98; refine (refadd_any _ _ _ (by omega) (by omega) (by omega) (by omega)).mono ?_; rintro e w' ⟨rfl, rfl⟩)
      go_round
      case rel =>
        refine ⟨add16 s' (x.toNat * 256 + y.toNat), j + 2, add16_le _ _ hs' (by omega), by omega, ?_, by go_num, ?_⟩
        · congr 3
        · unfold Hid
          rw [← prs_two s' xs j x y HX.out HY.out]
          exact HP.out
      case measure => simp [intOf]; omega
    · by_cases h1 : j < n
      · obtain ⟨g, o, rfl, _, _, hc⟩ := hat.out (by omega)
        obtain ⟨x, hx⟩ : ∃ x, xs[j]? = some x := ⟨_, List.getElem?_eq_getElem (by have := hlen.out; omega)⟩
        have c1 := hc _ _ hx
        clear hc
        have hfin : prs s' (xs.drop j) = add16 s' (x.toNat * 256) := prs_one s' xs j x hx (by have := hlen.out; omega)
        rw [HP.out] at hfin
        have HF := Lib.hid hfin
        clear hx hfin HP hat
        unfold bv at c1
        have hx8 := u8le x
        go_wp2_with (go_at_call 98; refine (refadd_any _ _ _ (by omega) (by omega) (by omega) (by omega)).mono ?_; rintro e w' ⟨rfl, rfl⟩)
        go_round
        case rel =>
          refine ⟨add16 s' (x.toNat * 256), j + 2, add16_le _ _ hs' (by omega), by omega, ?_, by go_num, ?_⟩
          · congr 3
          · unfold Hid
            rw [HF.out, List.drop_of_length_le (by have := hlen.out; omega)]
            rfl
        case measure => simp [intOf]; omega
      · have hfin : s' = prs 0 xs := by rw [← HP.out, List.drop_of_length_le (by have := hlen.out; omega)]; rfl
        have HF := Lib.hid hfin
        clear hfin HP hat hlen
        go_wp2
        go_ret
        refine ⟨?_, rfl⟩
        have e : ((65535 - s' : Nat) : Int) = 65535 - (s' : Nat) := by omega
        simp only [ofL, ← HF.out, e]
        rfl

theorem of_sm (A : Option Addr) (n c : Nat) (xs : List UInt8) (lo hi : Nat) (w : World) (hn : n ≤ 100000000) (h : Rd w lo hi A n c xs) :
    Calls Try.prog 80 #[.slice A n c] w fun e w' => ∃ s : Nat, e = .returned (.int .i64 (s : Int)) ∧ s ≤ 65535 ∧ Hid (s = ofL xs) ∧ Sm w w' :=
  (of_any A n c xs lo hi w hn h).mono fun _ _ ⟨he, k, hw⟩ => ⟨_, he, ofL_le xs, rfl, hw ▸ Sm.of_drewN w k⟩
theorem refof_sm (A : Option Addr) (n c : Nat) (xs : List UInt8) (lo hi : Nat) (w : World) (hn : n ≤ 100000000) (h : Rd w lo hi A n c xs) :
    Calls Try.prog 65 #[.slice A n c] w fun e w' => ∃ s : Nat, e = .returned (.int .i64 (s : Int)) ∧ s ≤ 65535 ∧ Hid (s = ofL xs) ∧ Sm w w' :=
  (refof_any A n c xs lo hi w hn h).mono fun _ _ ⟨he, hw⟩ => ⟨_, he, ofL_le xs, rfl, hw ▸ Sm.refl w⟩
end Go.Proofs.Ytoekncmggjhmjaa
