/- The contracts of the reference's numbers of two and of four bytes at a place. -/
import Derived.Test.YtoekncmggjhmjaaRefIcmpA
import Derived.BigQuiet
namespace Go.Proofs.Ytoekncmggjhmjaa
open Go.RowKit

theorem at16_eq (xs : List UInt8) (i : Nat) (x y : UInt8) (hx : xs[i]? = some x) (hy : xs[i + 1]? = some y) : at16 xs i = x.toNat * 256 + y.toNat := by
  obtain ⟨h1, e1⟩ := List.getElem?_eq_some_iff.1 hx
  obtain ⟨h2, e2⟩ := List.getElem?_eq_some_iff.1 hy
  unfold at16
  rw [List.drop_eq_getElem_cons h1, List.drop_eq_getElem_cons h2, e1, e2]
  simp [beA]

theorem at32_eq (xs : List UInt8) (i : Nat) (h : i + 4 ≤ xs.length) : at32 xs i = at16 xs i * 65536 + at16 xs (i + 2) := by
  obtain ⟨a, ha⟩ : ∃ x, xs[i]? = some x := ⟨_, List.getElem?_eq_getElem (by omega)⟩
  obtain ⟨b, hb⟩ : ∃ x, xs[i + 1]? = some x := ⟨_, List.getElem?_eq_getElem (by omega)⟩
  obtain ⟨c, hc⟩ : ∃ x, xs[i + 2]? = some x := ⟨_, List.getElem?_eq_getElem (by omega)⟩
  obtain ⟨d, hd⟩ : ∃ x, xs[i + 2 + 1]? = some x := ⟨_, List.getElem?_eq_getElem (by omega)⟩
  rw [at16_eq xs i a b ha hb, at16_eq xs (i + 2) c d hc hd]
  obtain ⟨h1, e1⟩ := List.getElem?_eq_some_iff.1 ha
  obtain ⟨h2, e2⟩ := List.getElem?_eq_some_iff.1 hb
  obtain ⟨h3, e3⟩ := List.getElem?_eq_some_iff.1 hc
  obtain ⟨h4, e4⟩ := List.getElem?_eq_some_iff.1 hd
  have e : xs.drop i = a :: b :: c :: d :: xs.drop (i + 2 + 1 + 1) := by
    rw [List.drop_eq_getElem_cons h1, List.drop_eq_getElem_cons h2, List.drop_eq_getElem_cons h3, List.drop_eq_getElem_cons h4, e1, e2, e3, e4]
  unfold at32
  rw [e]
  show (((0 * 256 + a.toNat) * 256 + b.toNat) * 256 + c.toNat) * 256 + d.toNat = _
  omega

theorem at16_lt (xs : List UInt8) (i : Nat) : at16 xs i ≤ 65535 := by
  have := beA_bd (xs.drop i) 2
  unfold at16
  omega

set_option maxHeartbeats 400000 in
theorem refat16_any (A : Option Addr) (n c : Nat) (xs : List UInt8) (lo hi : Nat) (w : World) (hn : n ≤ 100000000) (h : Rd w lo hi A n c xs) (i : Nat) (hi' : i + 2 ≤ n) :
    Calls Try.prog 87 #[.slice A n c, .int .i64 (i : Int)] w fun e w' => e = .returned (.int .i64 (at16 xs i : Nat)) ∧ ∃ k, w' = w.drewN k := by
  have hlen := h.len
  obtain ⟨g, o, rfl, _, _, hc⟩ := h.at_ (by omega)
  clear h
  obtain ⟨x, hx⟩ : ∃ x, xs[i]? = some x := ⟨_, List.getElem?_eq_getElem (by omega)⟩
  obtain ⟨y, hy⟩ : ∃ x, xs[i + 1]? = some x := ⟨_, List.getElem?_eq_getElem (by omega)⟩
  have c1 := hc _ _ hx
  have c2 := hc _ _ hy
  have HF := Lib.hid (at16_eq xs i x y hx hy)
  clear hc hx hy hlen
  unfold bv at c1 c2
  have hx8 := u8le x
  have hy8 := u8le y
  go_enter Try.func87, Try.ntmps87
  go_wp2_with fail
  go_quiet (fail)
  go_wp2
  go_ret
  exact ⟨by rw [HF.out]; simp, _, rfl⟩

theorem or32_join (x y : Nat) (hx : x ≤ 65535) (hy : y ≤ 65535) : bits .or .u32 ((x : Int) * 65536) (y : Int) = (x : Int) * 65536 + (y : Int) := by
  have h1 : (BitVec.ofInt 32 ((x * 65536 : Nat) : Int)).toNat = x * 65536 := by rw [BitVec.ofInt_natCast, BitVec.toNat_ofNat]; exact Nat.mod_eq_of_lt (by omega)
  have h2 : (BitVec.ofInt 32 (y : Int)).toNat = y := by rw [BitVec.ofInt_natCast, BitVec.toNat_ofNat]; exact Nat.mod_eq_of_lt (by omega)
  rw [show (x : Int) * 65536 = ((x * 65536 : Nat) : Int) from by simp]
  show IntKind.u32.wrap ((BitVec.ofInt 32 ((x * 65536 : Nat) : Int) ||| BitVec.ofInt 32 (y : Int)).toNat : Int) = _
  rw [BitVec.toNat_or, h1, h2, nat_join 16 (x * 65536) y (by omega) (by omega)]
  simp [IntKind.wrap, IntKind.signed, IntKind.bits]
  omega

set_option maxHeartbeats 400000 in
theorem refat32_any (A : Option Addr) (n c : Nat) (xs : List UInt8) (lo hi : Nat) (w : World) (hn : n ≤ 100000000) (h : Rd w lo hi A n c xs) (i : Nat) (hi' : i + 4 ≤ n) :
    Calls Try.prog 76 #[.slice A n c, .int .i64 (i : Int)] w fun e w' => e = .returned (.int .u32 (at32 xs i : Nat)) ∧ ∃ k, w' = w.drewN k := by
  have hlen := h.len
  have HF := Lib.hid (at32_eq xs i (by omega))
  have l1 := at16_lt xs i
  have l2 := at16_lt xs (i + 2)
  have ej := or32_join _ _ l1 l2
  clear hlen
  go_enter Try.func76, Try.ntmps76
  go_wp2_with fail
  refine (refat16_any A n c xs lo hi w hn h i (by omega)).mono ?_
  rintro e w1 ⟨rfl, k1, rfl⟩
  go_wp2_with fail
  refine (refat16_any A n c xs lo hi _ hn (h.drewN k1) (i + 2) (by omega)).mono ?_
  rintro e w2 ⟨rfl, k2, rfl⟩
  go_wp2_with fail
  go_ret
  refine ⟨?_, _, rfl⟩
  rw [HF.out]
  simp
end Go.Proofs.Ytoekncmggjhmjaa
