/- A segment's bytes, plainly. -/
import Derived.Test.YtoekncmggjhmjaaBit
namespace Go.Proofs.Ytoekncmggjhmjaa

theorem be4_val (z : Int) (h : 0 ≤ z ∧ z < 4294967296) : ((beA 0 [lo8 (z / 16777216), lo8 (z / 65536), lo8 (z / 256), lo8 z] : Nat) : Int) = z := by
  have a0 := lo8_toNat (z / 16777216)
  have a1 := lo8_toNat (z / 65536)
  have a2 := lo8_toNat (z / 256)
  have a3 := lo8_toNat z
  simp only [beA, List.foldl_cons, List.foldl_nil]
  omega

/-- a segment's bytes, with two bytes where its sum stands -/
def tcpH (fr tp seq ack fl win urg : Int) (so sb : List UInt8) (s0 s1 : UInt8) : List UInt8 :=
  lo8 (fr / 256) :: lo8 fr :: lo8 (tp / 256) :: lo8 tp :: lo8 (seq / 16777216) :: lo8 (seq / 65536) :: lo8 (seq / 256) :: lo8 seq :: lo8 (ack / 16777216) :: lo8 (ack / 65536) :: lo8 (ack / 256) :: lo8 ack ::
  lo8 (80 + 4 * (so.length : Int)) :: lo8 fl :: lo8 (win / 256) :: lo8 win :: s0 :: s1 :: lo8 (urg / 256) :: lo8 urg :: (so ++ sb)

section
variable (fr tp seq ack fl win urg : Int) (so sb : List UInt8) (s0 s1 : UInt8)
theorem tcpH_len : (tcpH fr tp seq ack fl win urg so sb s0 s1).length = 20 + so.length + sb.length := by simp [tcpH]; omega
theorem tcpH_fr (h : 0 ≤ fr ∧ fr ≤ 65535) : ((at16 (tcpH fr tp seq ack fl win urg so sb s0 s1) 0 : Nat) : Int) = fr := at16_lo _ 0 fr h rfl rfl
theorem tcpH_tp (h : 0 ≤ tp ∧ tp ≤ 65535) : ((at16 (tcpH fr tp seq ack fl win urg so sb s0 s1) 2 : Nat) : Int) = tp := at16_lo _ 2 tp h rfl rfl
theorem tcpH_seq (h : 0 ≤ seq ∧ seq < 4294967296) : ((at32 (tcpH fr tp seq ack fl win urg so sb s0 s1) 4 : Nat) : Int) = seq := be4_val seq h
theorem tcpH_ack (h : 0 ≤ ack ∧ ack < 4294967296) : ((at32 (tcpH fr tp seq ack fl win urg so sb s0 s1) 8 : Nat) : Int) = ack := be4_val ack h
theorem tcpH_win (h : 0 ≤ win ∧ win ≤ 65535) : ((at16 (tcpH fr tp seq ack fl win urg so sb s0 s1) 14 : Nat) : Int) = win := at16_lo _ 14 win h rfl rfl
theorem tcpH_urg (h : 0 ≤ urg ∧ urg ≤ 65535) : ((at16 (tcpH fr tp seq ack fl win urg so sb s0 s1) 18 : Nat) : Int) = urg := at16_lo _ 18 urg h rfl rfl
theorem tcpH_fl (h : 0 ≤ fl ∧ fl ≤ 63) : bits BinOp.and IntKind.i64 ((at16 (tcpH fr tp seq ack fl win urg so sb s0 s1) 12 : Nat) : Int) (63 : Int) = fl := by
  rw [and_63, at16_two (tcpH fr tp seq ack fl win urg so sb s0 s1) 12 (lo8 (80 + 4 * (so.length : Int))) (lo8 fl) rfl rfl]
  have a := lo8_toNat fl
  omega
theorem tcpH_h (h : so.length ≤ 40) (h4 : so.length % 4 = 0) : IntKind.wrap IntKind.i64 (IntKind.wrap IntKind.i64 (Int.fdiv (↑(UInt8.toNat (List.getD (tcpH fr tp seq ack fl win urg so sb s0 s1) (12 : Nat) (0 : UInt8))) : Int) (16 : Int)) * (4 : Int)) = ((20 + so.length : Nat) : Int) := by
  have e : List.getD (tcpH fr tp seq ack fl win urg so sb s0 s1) 12 0 = lo8 (80 + 4 * (so.length : Int)) := rfl
  have a := lo8_toNat (80 + 4 * (so.length : Int))
  rw [e, a, Int.fdiv_eq_ediv_of_nonneg _ (by decide), w64 ((80 + 4 * (so.length : Int)) % 256 / 16) (by omega), w64 _ (by omega)]
  omega
theorem tcpH_drop : List.drop 20 (tcpH fr tp seq ack fl win urg so sb s0 s1) = so ++ sb := rfl
theorem tcpH_sum (a b c d e f g h i j k l : UInt8) (hs : s0.toNat * 256 + s1.toNat = ofL (a :: b :: c :: d :: e :: f :: g :: h :: i :: j :: k :: l :: tcpH fr tp seq ack fl win urg so sb 0 0)) :
    ofL (a :: b :: c :: d :: e :: f :: g :: h :: i :: j :: k :: l :: tcpH fr tp seq ack fl win urg so sb s0 s1) = 0 :=
  ofL_put (a :: b :: c :: d :: e :: f :: g :: h :: i :: j :: k :: l :: tcpH fr tp seq ack fl win urg so sb 0 0) 28 s0 s1 (by decide) rfl rfl hs
theorem head_byte (h : so.length ≤ 40) (h4 : so.length % 4 = 0) : UInt8.ofNat (Int.toNat (IntKind.wrap IntKind.u8 (IntKind.wrap IntKind.u8 (IntKind.wrap IntKind.i64 (Int.tdiv (IntKind.wrap IntKind.i64 ((20 : Int) + (↑(List.length so) : Int))) (4 : Int))) * (16 : Int)))) = lo8 (80 + 4 * (so.length : Int)) := by
  rw [w64 (20 + (so.length : Int)) (by omega), Int.tdiv_eq_ediv_of_nonneg (by omega), w64 ((20 + (so.length : Int)) / 4) (by omega), wu8, wu8, lo8_raw]
  exact lo8_congr (by omega)
theorem head_byte2 (h : so.length ≤ 40) : UInt8.ofNat (Int.toNat (IntKind.wrap IntKind.u8 (IntKind.wrap IntKind.i64 ((80 : Int) + IntKind.wrap IntKind.i64 ((4 : Int) * (↑(List.length so) : Int)))))) = lo8 (80 + 4 * (so.length : Int)) := by
  rw [w64 (4 * (so.length : Int)) (by omega), w64 _ (by omega), wu8, lo8_raw]
end
end Go.Proofs.Ytoekncmggjhmjaa
