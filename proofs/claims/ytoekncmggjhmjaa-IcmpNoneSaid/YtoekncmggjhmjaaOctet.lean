/- The contracts of package octet's writers: a number's bytes behind others. -/
import Derived.Test.YtoekncmggjhmjaaKit
import Derived.Test.YtoekncmggjhmjaaProg
namespace Go.Proofs.Ytoekncmggjhmjaa
open Go.RowKit

theorem bt : ByteTy Try.prog 24 5 := { ht := Try.underlying24, hi := by kernel_rfl, hb := Try.underlying5 }

/-- a number's last byte -/
def lo8 (v : Int) : UInt8 := UInt8.ofNat (v % 256).toNat
theorem bv_lo8 (v : Int) : Value.int .u8 (v % 256) = bv (lo8 v) := by
  unfold bv lo8
  congr 1
  simp [UInt8.toNat_ofNat']
  omega
theorem bv_small (v : Int) (h0 : 0 ≤ v) (h1 : v ≤ 255) : Value.int .u8 v = bv (lo8 v) := by
  rw [← bv_lo8, Int.emod_eq_of_lt h0 (by omega)]
def be16 (v : Int) : List UInt8 := [lo8 (v / 256), lo8 v]
def be32 (v : Int) : List UInt8 := [lo8 (v / 16777216), lo8 (v / 65536), lo8 (v / 256), lo8 v]

/-- what a function hands back that makes bytes -/
def RetB (w : World) (n : Nat) (ys : List UInt8) (en : Ending) (w' : World) : Prop :=
  ∃ A c, en = .returned (.slice A n c) ∧ Own w' w.heap.size 5 A n c ys ∧ Below w.heap.size w w'

set_option maxHeartbeats 400000 in
theorem u16_any (A : Option Addr) (n c : Nat) (v : Int) (xs : List UInt8) (lo hi : Nat) (w : World) (h : Rd w lo hi A n c xs) (hhi : hi ≤ w.heap.size) (hn : n ≤ 100000000) :
    Calls Try.prog 84 #[.slice A n c, .int .i64 v] w (RetB w (n + 2) (xs ++ be16 v)) := by
  go_enter Try.func84, Try.ntmps84
  go_wp2_with (first
    | (at_builtin
       refine wpList_appB _ rfl (.tmp 5) (.tmp 6) bt rfl w.heap.size _ 0 0 [] rfl (Own.lit w _ _ #[] [] (Nat.le_refl _) rfl (by simp) rfl rfl) lo hi A n c xs rfl (h.alloc hhi _) (by omega) (by simp) ?_
       intro A1 c1 w1 own1 hg1 hat1
       simp only [Nat.zero_add, List.nil_append] at own1
       have hb1 : Below w.heap.size w w1 := ((Below.refl _ _).alloc (Nat.le_refl _) _).grown hg1 (by simp) (by simp [Value.ownBlock])
       clear hg1 hat1)
    | (at_builtin
       refine wpList_appB _ rfl (.tmp 7) (.tmp 13) bt rfl w.heap.size A1 n c1 xs rfl (own1.alloc _) w1.heap.size (w1.heap.size + 1) (some ⟨w1.heap.size, 0, none⟩) 2 2 (be16 v) rfl
         (Rd.lit w1 _ _ (be16 v) (by simp [be16, bv_lo8]) (by simp [be16]) rfl rfl) (by omega) (by have := hb1.size; simp; omega) ?_
       intro A2 c2 w2 own2 hg2 hat2
       have hb2 : Below w.heap.size w w2 := (hb1.alloc hb1.size _).grown hg2 (by have := hb1.size; simp; omega) (fun k hk => (own1.lt k hk).1)
       clear hg2 hat2))
  go_ret
  exact ⟨A2, c2, rfl, own2, hb2⟩

set_option maxHeartbeats 400000 in
theorem u32_any (A : Option Addr) (n c : Nat) (v : Int) (xs : List UInt8) (lo hi : Nat) (w : World) (h : Rd w lo hi A n c xs) (hhi : hi ≤ w.heap.size) (hn : n ≤ 100000000) (h0 : 0 ≤ v) (h1 : v ≤ 4294967295) :
    Calls Try.prog 79 #[.slice A n c, .int .u32 v] w (RetB w (n + 4) (xs ++ be32 v)) := by
  have h24 := bv_small (v / 16777216) (by omega) (by omega)
  have H24 := Lib.hid h24
  clear h24
  go_enter Try.func79, Try.ntmps79
  go_wp2_with (first
    | (at_builtin
       refine wpList_appB _ rfl (.tmp 5) (.tmp 6) bt rfl w.heap.size _ 0 0 [] rfl (Own.lit w _ _ #[] [] (Nat.le_refl _) rfl (by simp) rfl rfl) lo hi A n c xs rfl (h.alloc hhi _) (by omega) (by simp) ?_
       intro A1 c1 w1 own1 hg1 hat1
       simp only [Nat.zero_add, List.nil_append] at own1
       have hb1 : Below w.heap.size w w1 := ((Below.refl _ _).alloc (Nat.le_refl _) _).grown hg1 (by simp) (by simp [Value.ownBlock])
       clear hg1 hat1)
    | (at_builtin
       refine wpList_appB _ rfl (.tmp 7) (.tmp 19) bt rfl w.heap.size A1 n c1 xs rfl (own1.alloc _) w1.heap.size (w1.heap.size + 1) (some ⟨w1.heap.size, 0, none⟩) 4 4 (be32 v) rfl
         (Rd.lit w1 _ _ (be32 v) (by simp [be32, bv_lo8, H24.out]) (by simp [be32]) rfl rfl) (by omega) (by have := hb1.size; simp; omega) ?_
       intro A2 c2 w2 own2 hg2 hat2
       have hb2 : Below w.heap.size w w2 := (hb1.alloc hb1.size _).grown hg2 (by have := hb1.size; simp; omega) (fun k hk => (own1.lt k hk).1)
       clear hg2 hat2))
  go_ret
  exact ⟨A2, c2, rfl, own2, hb2⟩

set_option maxHeartbeats 400000 in
theorem refu16_any (A : Option Addr) (n c : Nat) (v : Int) (xs : List UInt8) (lo hi : Nat) (w : World) (h : Rd w lo hi A n c xs) (hhi : hi ≤ w.heap.size) (hn : n ≤ 100000000) :
    Calls Try.prog 89 #[.slice A n c, .int .i64 v] w (RetB w (n + 2) (xs ++ be16 v)) := by
  go_enter Try.func89, Try.ntmps89
  go_wp2_with (first
    | (at_builtin
       refine wpList_appB _ rfl (.tmp 5) (.tmp 6) bt rfl w.heap.size _ 0 0 [] rfl (Own.lit w _ _ #[] [] (Nat.le_refl _) rfl (by simp) rfl rfl) lo hi A n c xs rfl (h.alloc hhi _) (by omega) (by simp) ?_
       intro A1 c1 w1 own1 hg1 hat1
       simp only [Nat.zero_add, List.nil_append] at own1
       have hb1 : Below w.heap.size w w1 := ((Below.refl _ _).alloc (Nat.le_refl _) _).grown hg1 (by simp) (by simp [Value.ownBlock])
       clear hg1 hat1)
    | (at_builtin
       refine wpList_appB _ rfl (.tmp 7) (.tmp 13) bt rfl w.heap.size A1 n c1 xs rfl (own1.alloc _) w1.heap.size (w1.heap.size + 1) (some ⟨w1.heap.size, 0, none⟩) 2 2 (be16 v) rfl
         (Rd.lit w1 _ _ (be16 v) (by simp [be16, bv_lo8]) (by simp [be16]) rfl rfl) (by omega) (by have := hb1.size; simp; omega) ?_
       intro A2 c2 w2 own2 hg2 hat2
       have hb2 : Below w.heap.size w w2 := (hb1.alloc hb1.size _).grown hg2 (by have := hb1.size; simp; omega) (fun k hk => (own1.lt k hk).1)
       clear hg2 hat2))
  go_ret
  exact ⟨A2, c2, rfl, own2, hb2⟩

set_option maxHeartbeats 400000 in
theorem copied_any (A : Option Addr) (n c : Nat) (xs : List UInt8) (lo hi : Nat) (w : World) (h : Rd w lo hi A n c xs) (hhi : hi ≤ w.heap.size) (hn : n ≤ 100000000) :
    Calls Try.prog 77 #[.slice A n c] w (RetB w n xs) := by
  go_enter Try.func77, Try.ntmps77
  go_wp2_with (
    (at_builtin
     refine wpList_appB _ rfl (.tmp 3) (.tmp 4) bt rfl w.heap.size _ 0 0 [] rfl (Own.lit w _ _ #[] [] (Nat.le_refl _) rfl (by simp) rfl rfl) lo hi A n c xs rfl (h.alloc hhi _) (by omega) (by simp) ?_
     intro A1 c1 w1 own1 hg1 hat1
     simp only [Nat.zero_add, List.nil_append] at own1
     have hb1 : Below w.heap.size w w1 := ((Below.refl _ _).alloc (Nat.le_refl _) _).grown hg1 (by simp) (by simp [Value.ownBlock])
     clear hg1 hat1))
  go_ret
  exact ⟨A1, c1, rfl, own1, hb1⟩

theorem lo8_congr {a b : Int} (h : a % 256 = b % 256) : lo8 a = lo8 b := by unfold lo8; rw [h]

theorem be32_eq (v : Int) : be16 (v / 65536) ++ be16 (v % 65536) = be32 v := by
  have e1 : lo8 (v / 65536 / 256) = lo8 (v / 16777216) := lo8_congr (by omega)
  have e2 : lo8 (v % 65536 / 256) = lo8 (v / 256) := lo8_congr (by omega)
  have e3 : lo8 (v % 65536) = lo8 v := lo8_congr (by omega)
  simp only [be16, be32, List.cons_append, List.nil_append, e1, e2, e3]

set_option maxHeartbeats 400000 in
theorem refu32_any (A : Option Addr) (n c : Nat) (v : Int) (xs : List UInt8) (lo hi : Nat) (w : World) (h : Rd w lo hi A n c xs) (hhi : hi ≤ w.heap.size) (hn : n ≤ 90000000) (h0 : 0 ≤ v) (h1 : v ≤ 4294967295) :
    Calls Try.prog 82 #[.slice A n c, .int .u32 v] w (RetB w (n + 4) (xs ++ be32 v)) := by
  have hand : bits .and .u32 v 65535 = v % 65536 := by
    obtain ⟨u, rfl⟩ := Int.eq_ofNat_of_zero_le h0
    have := u32_and_nat u 65535 (by omega) (by omega)
    rw [nat_mask16] at this
    simpa using this
  go_enter Try.func82, Try.ntmps82
  go_wp2_with fail
  refine (refu16_any A n c _ xs lo hi _ h hhi (by omega)).mono ?_
  rintro e w1 ⟨A1, c1, rfl, own1, hb1⟩
  go_wp2_with fail
  refine (refu16_any A1 (n + 2) c1 _ _ w.heap.size w1.heap.size _ (Rd.of_own own1) (Nat.le_refl _) (by omega)).mono ?_
  rintro e w2 ⟨A2, c2, rfl, own2, hb2⟩
  go_wp2_with fail
  go_ret
  rw [List.append_assoc, be32_eq] at own2
  exact ⟨A2, c2, rfl, own2.rebase hb1.size, hb1.trans (hb2.mono hb1.size)⟩

end Go.Proofs.Ytoekncmggjhmjaa
