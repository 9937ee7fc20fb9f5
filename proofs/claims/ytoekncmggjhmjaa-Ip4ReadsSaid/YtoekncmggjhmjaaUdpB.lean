/- A datagram's bytes, plainly. -/
import Derived.Test.YtoekncmggjhmjaaWk
namespace Go.Proofs.Ytoekncmggjhmjaa

theorem at16_two (xs : List UInt8) (i : Nat) (a b : UInt8) (h0 : xs[i]? = some a) (h1 : xs[i + 1]? = some b) : at16 xs i = a.toNat * 256 + b.toNat := by
  have hl : i + 1 < xs.length := (List.getElem?_eq_some_iff.1 h1).1
  have h := at16_len xs i (by omega)
  rw [← h]
  simp [List.getElem?_take, List.getElem?_drop, h0, h1]

theorem at16_lo (xs : List UInt8) (i : Nat) (z : Int) (h : 0 ≤ z ∧ z ≤ 65535) (h0 : xs[i]? = some (lo8 (z / 256))) (h1 : xs[i + 1]? = some (lo8 z)) : ((at16 xs i : Nat) : Int) = z := by
  rw [at16_two xs i _ _ h0 h1]
  have a := lo8_toNat (z / 256)
  have b := lo8_toNat z
  omega

/-- a datagram's bytes, with two bytes where its sum stands -/
def udpH (fr tp : Int) (db : List UInt8) (s0 s1 : UInt8) : List UInt8 :=
  lo8 (fr / 256) :: lo8 fr :: lo8 (tp / 256) :: lo8 tp :: lo8 ((8 + (db.length : Int)) / 256) :: lo8 (8 + (db.length : Int)) :: s0 :: s1 :: db

section
variable (fr tp : Int) (db : List UInt8) (s0 s1 : UInt8)
theorem udpH_len : (udpH fr tp db s0 s1).length = 8 + db.length := by simp [udpH]; omega
theorem udpH_fr (h : 0 ≤ fr ∧ fr ≤ 65535) : ((at16 (udpH fr tp db s0 s1) 0 : Nat) : Int) = fr := at16_lo _ 0 fr h rfl rfl
theorem udpH_tp (h : 0 ≤ tp ∧ tp ≤ 65535) : ((at16 (udpH fr tp db s0 s1) 2 : Nat) : Int) = tp := at16_lo _ 2 tp h rfl rfl
theorem udpH_n (h : db.length ≤ 60000) : at16 (udpH fr tp db s0 s1) 4 = 8 + db.length := by
  have := at16_lo (udpH fr tp db s0 s1) 4 (8 + (db.length : Int)) (by omega) rfl rfl
  omega
theorem udpH_s : at16 (udpH fr tp db s0 s1) 6 = s0.toNat * 256 + s1.toNat := at16_two _ 6 s0 s1 rfl rfl
theorem udpH_drop : List.drop 8 (udpH fr tp db s0 s1) = db := rfl
theorem udpH_sum (a b c d e f g h i j k l : UInt8) (hs : s0.toNat * 256 + s1.toNat = ofL (a :: b :: c :: d :: e :: f :: g :: h :: i :: j :: k :: l :: udpH fr tp db 0 0)) :
    ofL (a :: b :: c :: d :: e :: f :: g :: h :: i :: j :: k :: l :: udpH fr tp db s0 s1) = 0 :=
  ofL_put (a :: b :: c :: d :: e :: f :: g :: h :: i :: j :: k :: l :: udpH fr tp db 0 0) 18 s0 s1 (by decide) rfl rfl hs
theorem udpH_sum1 (a b c d e f g h i j k l : UInt8) (hz : ofL (a :: b :: c :: d :: e :: f :: g :: h :: i :: j :: k :: l :: udpH fr tp db 0 0) = 0) :
    ofL (a :: b :: c :: d :: e :: f :: g :: h :: i :: j :: k :: l :: udpH fr tp db 255 255) = 0 :=
  ofL_put1 (a :: b :: c :: d :: e :: f :: g :: h :: i :: j :: k :: l :: udpH fr tp db 0 0) 18 255 255 (by decide) rfl rfl (by decide) hz
end
end Go.Proofs.Ytoekncmggjhmjaa
