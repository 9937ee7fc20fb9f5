/- Several texts in one: Pw, Sw. -/
import Derived.Test.YtfofhpkafhpicaaGreatDoorKit
import Derived.Test.YtfofhpkafhpicaaGreatDoorMeh
import Derived.Test.YtfofhpkafhpicaaGreatDoorProg
import Derived.BigQuiet
import Derived.Deep.QuietTactic

/- Plain words: sums, numbers in bytes; no program in sight. -/
namespace Go.Proofs.YtfofhpkafhpicaaGreatDoor
open Go.RowKit

theorem and_mask (k m : Nat) (v : Int) (hk : k < 63) (hm : m = 2 ^ k) : bits .and .i64 v ((m : Int) - 1) = v % (m : Int) := by
  subst hm
  have hp : 2 ^ k < 9223372036854775808 := Nat.lt_of_lt_of_le (Nat.pow_lt_pow_right (by omega) hk) (by decide)
  have hpos : 0 < 2 ^ k := Nat.pow_pos (by omega)
  have h1 : (BitVec.ofInt 64 (((2 ^ k : Nat) : Int) - 1)).toNat = 2 ^ k - 1 := by
    rw [show (((2 ^ k : Nat) : Int) - 1) = ((2 ^ k - 1 : Nat) : Int) from by omega, BitVec.ofInt_natCast, BitVec.toNat_ofNat]
    exact Nat.mod_eq_of_lt (by omega)
  show IntKind.i64.wrap ((BitVec.ofInt 64 v &&& BitVec.ofInt 64 (((2 ^ k : Nat) : Int) - 1)).toNat : Int) = _
  rw [BitVec.toNat_and, h1, Nat.and_two_pow_sub_one_eq_mod, BitVec.toNat_ofInt]
  have h2 : ((v % ((2 ^ 64 : Nat) : Int)).toNat % 2 ^ k : Nat) < 2 ^ k := Nat.mod_lt _ hpos
  rw [IntWalk.i64_in _ (by omega), Int.natCast_emod, Int.toNat_of_nonneg (Int.emod_nonneg _ (by decide))]
  exact Int.emod_emod_of_dvd _ (by
    refine Int.natCast_dvd_natCast.2 ?_
    exact Nat.pow_dvd_pow 2 (by omega))

theorem and_65535 (v : Int) : bits .and .i64 v 65535 = v % 65536 := and_mask 16 65536 v (by omega) rfl

theorem and_8191 (v : Int) : bits .and .i64 v 8191 = v % 8192 := and_mask 13 8192 v (by omega) rfl

theorem and_63 (v : Int) : bits .and .i64 v 63 = v % 64 := and_mask 6 64 v (by omega) rfl

theorem and_15 (v : Int) : bits .and .i64 v 15 = v % 16 := and_mask 4 16 v (by omega) rfl

theorem and_7 (v : Int) : bits .and .i64 v 7 = v % 8 := and_mask 3 8 v (by omega) rfl

theorem and_1 (v : Int) : bits .and .i64 v 1 = v % 2 := and_mask 1 2 v (by omega) rfl

theorem or_join (i : Nat) (x y : Nat) (hx : x % 2 ^ i = 0) (hy : y < 2 ^ i) (hb : x + y < 9223372036854775808) : bits .or .i64 (x : Int) (y : Int) = (x : Int) + (y : Int) := by
  have h1 : (BitVec.ofInt 64 (x : Int)).toNat = x := by rw [BitVec.ofInt_natCast, BitVec.toNat_ofNat]; exact Nat.mod_eq_of_lt (by omega)
  have h2 : (BitVec.ofInt 64 (y : Int)).toNat = y := by rw [BitVec.ofInt_natCast, BitVec.toNat_ofNat]; exact Nat.mod_eq_of_lt (by omega)
  show IntKind.i64.wrap ((BitVec.ofInt 64 (x : Int) ||| BitVec.ofInt 64 (y : Int)).toNat : Int) = _
  rw [BitVec.toNat_or, h1, h2, nat_join i x y hx hy]
  rw [IntWalk.i64_in _ (by omega)]
  omega

theorem or_byte (x y : UInt8) : bits .or .i64 ((x.toNat : Int) * 256) (y.toNat : Int) = (x.toNat : Int) * 256 + (y.toNat : Int) := by
  have hx := x.toNat_lt
  have hy := y.toNat_lt
  have := or_join 8 (x.toNat * 256) y.toNat (by omega) (by omega) (by omega)
  simpa using this

theorem u8_and15 (x : UInt8) : bits .and .u8 (x.toNat : Int) 15 = (x.toNat : Int) % 16 := by
  have hx := x.toNat_lt
  have := u8_and_nat x.toNat 15 (by omega) (by omega)
  rw [nat_mask4] at this
  simpa using this

attribute [go_sem] and_65535 and_8191 and_63 and_15 and_7 and_1 or_byte u8_and15

/-- one's complement addition, as the Go text has it -/
def add16 (a b : Nat) : Nat := (a % 65536 + b % 65536) % 65536 + (a % 65536 + b % 65536) / 65536

def prs : Nat → List UInt8 → Nat
  | s, [] => s
  | s, [x] => add16 s (x.toNat * 256)
  | s, x :: y :: l => prs (add16 s (x.toNat * 256 + y.toNat)) l

def ofL (l : List UInt8) : Nat := 65535 - prs 0 l

def wsum : List UInt8 → Nat
  | [] => 0
  | [x] => x.toNat * 256
  | x :: y :: l => x.toNat * 256 + y.toNat + wsum l

theorem add16_le (a b : Nat) (ha : a ≤ 65535) (_hb : b ≤ 65535) : add16 a b ≤ 65535 := by unfold add16; omega

theorem add16_mod (a b : Nat) (ha : a ≤ 65535) (_hb : b ≤ 65535) : add16 a b % 65535 = (a + b) % 65535 := by unfold add16; omega

theorem add16_zero (a b : Nat) (ha : a ≤ 65535) (_hb : b ≤ 65535) : add16 a b = 0 ↔ a + b = 0 := by unfold add16; omega

theorem u8le (x : UInt8) : x.toNat ≤ 255 := by have := x.toNat_lt; omega

theorem prs_le : ∀ (l : List UInt8) (s : Nat), s ≤ 65535 → prs s l ≤ 65535
  | [], _, h => h
  | [x], s, h => add16_le _ _ h (by have := u8le x; omega)
  | x :: y :: l, s, h => prs_le l _ (add16_le _ _ h (by have := u8le x; have := u8le y; omega))

theorem prs_spec : ∀ (l : List UInt8) (s : Nat), s ≤ 65535 → prs s l % 65535 = (s + wsum l) % 65535 ∧ (prs s l = 0 ↔ s + wsum l = 0)
  | [], s, _ => by simp [prs, wsum]
  | [x], s, h => by
    have hx := u8le x
    exact ⟨add16_mod _ _ h (by omega), add16_zero _ _ h (by omega)⟩
  | x :: y :: l, s, h => by
    have hx := u8le x
    have hy := u8le y
    have h1 := add16_le s (x.toNat * 256 + y.toNat) h (by omega)
    have h2 := add16_mod s (x.toNat * 256 + y.toNat) h (by omega)
    have h3 := add16_zero s (x.toNat * 256 + y.toNat) h (by omega)
    obtain ⟨h4, h5⟩ := prs_spec l _ h1
    simp only [prs, wsum]
    refine ⟨by omega, ?_⟩
    omega

theorem ofL_le (l : List UInt8) : ofL l ≤ 65535 := by unfold ofL; omega

theorem ofL_zero (l : List UInt8) : ofL l = 0 ↔ wsum l % 65535 = 0 ∧ wsum l ≠ 0 := by
  have h := prs_spec l 0 (by omega)
  have h1 := prs_le l 0 (by omega)
  unfold ofL
  omega

theorem ofL_mod (l : List UInt8) : (wsum l + ofL l) % 65535 = 0 ∧ wsum l + ofL l ≠ 0 := by
  have h := prs_spec l 0 (by omega)
  have h1 := prs_le l 0 (by omega)
  unfold ofL
  omega

theorem wsum_append : ∀ (l m : List UInt8), l.length % 2 = 0 → wsum (l ++ m) = wsum l + wsum m
  | [], m, _ => by simp [wsum]
  | [x], m, h => by simp at h
  | x :: y :: l, m, h => by
    have := wsum_append l m (by simp at h; omega)
    simp only [List.cons_append, wsum, this]
    omega

def weight (i : Nat) : Nat := if i % 2 = 0 then 256 else 1

theorem wsum_set : ∀ (l : List UInt8) (i : Nat) (v x : UInt8), l[i]? = some x → wsum (l.set i v) + weight i * x.toNat = wsum l + weight i * v.toNat
  | [], i, v, x, h => by simp at h
  | [a], i, v, x, h => by
    match i, h with
    | 0, h => simp at h; subst h; simp [wsum, weight]; omega
    | i + 1, h => simp at h
  | a :: b :: l, i, v, x, h => by
    match i, h with
    | 0, h => simp at h; subst h; simp [wsum, weight]; omega
    | 1, h => simp at h; subst h; simp [wsum, weight]; omega
    | i + 2, h =>
      have := wsum_set l i v x (by simpa using h)
      have hw : weight (i + 2) = weight i := by simp [weight]
      simp only [List.set_cons_succ, wsum, hw]
      omega

theorem prs_append : ∀ (l m : List UInt8) (s : Nat), l.length % 2 = 0 → prs s (l ++ m) = prs (prs s l) m
  | [], m, s, _ => by simp [prs]
  | [x], m, s, h => by simp at h
  | x :: y :: l, m, s, h => by
    have := prs_append l m (add16 s (x.toNat * 256 + y.toNat)) (by simp at h; omega)
    simp only [List.cons_append, prs, this]

/-- one bit of a byte turned -/
theorem flip_nat : ∀ a, a < 256 → ∀ k, k < 8 → (a ^^^ 2 ^ k = a + 2 ^ k ∨ (a ^^^ 2 ^ k) + 2 ^ k = a) := by decide +kernel

theorem prs_two (s : Nat) (l : List UInt8) (j : Nat) (x y : UInt8) (hx : l[j]? = some x) (hy : l[j + 1]? = some y) :
    prs s (l.drop j) = prs (add16 s (x.toNat * 256 + y.toNat)) (l.drop (j + 2)) := by
  obtain ⟨h1, e1⟩ := List.getElem?_eq_some_iff.1 hx
  obtain ⟨h2, e2⟩ := List.getElem?_eq_some_iff.1 hy
  rw [List.drop_eq_getElem_cons h1, List.drop_eq_getElem_cons h2, e1, e2]
  rfl

theorem prs_one (s : Nat) (l : List UInt8) (j : Nat) (x : UInt8) (hx : l[j]? = some x) (hl : l.length = j + 1) :
    prs s (l.drop j) = add16 s (x.toNat * 256) := by
  obtain ⟨h1, e1⟩ := List.getElem?_eq_some_iff.1 hx
  rw [List.drop_eq_getElem_cons h1, List.drop_of_length_le (by omega), e1]
  rfl

/-- a number of big end first -/
def beN (l : List UInt8) : Nat := l.foldl (fun v x => v * 256 + x.toNat) 0

/-- a number's last byte -/
def lo8 (v : Int) : UInt8 := UInt8.ofNat (v % 256).toNat

theorem bv_lo8 (v : Int) : Value.int .u8 (v % 256) = bv (lo8 v) := by
  unfold bv lo8
  congr 1
  simp [UInt8.toNat_ofNat']
  omega

theorem bv_small (v : Int) (h0 : 0 ≤ v) (h1 : v ≤ 255) : Value.int .u8 v = bv (lo8 v) := by
  rw [← bv_lo8, Int.emod_eq_of_lt h0 (by omega)]

def be16 (v : Int) : List UInt8 := [lo8 (v / 256), lo8 v]

def be32 (v : Int) : List UInt8 := [lo8 (v / 16777216), lo8 (v / 65536), lo8 (v / 256), lo8 v]

theorem lo8_congr {a b : Int} (h : a % 256 = b % 256) : lo8 a = lo8 b := by unfold lo8; rw [h]

theorem be32_eq (v : Int) : be16 (v / 65536) ++ be16 (v % 65536) = be32 v := by
  have e1 : lo8 (v / 65536 / 256) = lo8 (v / 16777216) := lo8_congr (by omega)
  have e2 : lo8 (v % 65536 / 256) = lo8 (v / 256) := lo8_congr (by omega)
  have e3 : lo8 (v % 65536) = lo8 v := lo8_congr (by omega)
  simp only [be16, be32, List.cons_append, List.nil_append, e1, e2, e3]

/-- nothing but block g, and new blocks, has turned -/
abbrev Chg (g : Nat) (w w' : World) : Prop := w.grownBy w' (some g)

theorem Chg.trans {g : Nat} {a b c : World} (h : Chg g a b) (k : Chg g b c) : Chg g a c :=
  ⟨k.os.trans h.os, k.tape.trans h.tape, k.output.trans h.output, Nat.le_trans h.size k.size, fun i hi hne => (k.block i (Nat.lt_of_lt_of_le hi h.size) hne).trans (h.block i hi hne)⟩

theorem Chg.of_below {g : Nat} {a b : World} (h : Below a.heap.size a b) : Chg g a b := ⟨h.os, h.tape, h.output, h.size, fun i hi _ => h.block i hi⟩

theorem Chg.below {g B : Nat} {a b : World} (h : Chg g a b) (hB : B ≤ g) (hs : B ≤ a.heap.size) : Below B a b :=
  ⟨h.os, h.tape, h.output, h.size, fun i hi => h.block i (by omega) (fun e => by injection e; omega)⟩

/-- a number of big end first -/
def beA (v : Nat) (l : List UInt8) : Nat := l.foldl (fun v x => v * 256 + x.toNat) v

theorem beA_step (v : Nat) (l : List UInt8) (j : Nat) (x : UInt8) (hx : l[j]? = some x) : beA v (l.drop j) = beA (v * 256 + x.toNat) (l.drop (j + 1)) := by
  obtain ⟨h1, e1⟩ := List.getElem?_eq_some_iff.1 hx
  rw [List.drop_eq_getElem_cons h1, e1]
  rfl

theorem beA_lt : ∀ (l : List UInt8) (v k : Nat), v < 256 ^ k → beA v l < 256 ^ (k + l.length)
  | [], v, k, h => h
  | x :: l, v, k, h => by
    have hx := u8le x
    have := beA_lt l (v * 256 + x.toNat) (k + 1) (by rw [Nat.pow_succ]; omega)
    simpa [beA, Nat.add_assoc, Nat.add_comm 1] using this

theorem or_u32 (v : Nat) (x : UInt8) (hv : v ≤ 16777215) : bits .or .u32 ((v : Int) * 256) (x.toNat : Int) = ((v * 256 + x.toNat : Nat) : Int) := by
  have hx := u8le x
  have := u32_or_nat (v * 256) x.toNat (by omega) (by omega)
  rw [nat_join 8 (v * 256) x.toNat (by omega) (by omega)] at this
  simpa using this

theorem beA_bd (xs : List UInt8) (k : Nat) : beA 0 (xs.take k) < 256 ^ k := by
  have := beA_lt (xs.take k) 0 0 (by omega)
  have h2 : (xs.take k).length ≤ k := by rw [List.length_take]; omega
  have h3 : 256 ^ (0 + (xs.take k).length) ≤ 256 ^ k := Nat.pow_le_pow_right (by omega) (by omega)
  omega

theorem beA_take (xs : List UInt8) (k : Nat) (hk : k ≤ 4) : beA 0 (xs.take k) ≤ 4294967295 := by
  have := beA_lt (xs.take k) 0 0 (by omega)
  have h2 : (xs.take k).length ≤ 4 := by rw [List.length_take]; omega
  have h3 : 256 ^ (0 + (xs.take k).length) ≤ 256 ^ 4 := Nat.pow_le_pow_right (by omega) (by omega)
  omega

structure Ad where
  a : UInt8
  b : UInt8
  c : UInt8
  d : UInt8

structure Pkt where
  tos : Int
  id : Int
  flags : Int
  part : Int
  ttl : Int
  proto : Int
  src : Ad
  dst : Ad
  opts : List UInt8
  body : List UInt8

def Ad.zero : Ad := ⟨0, 0, 0, 0⟩

def Pkt.zero : Pkt := ⟨0, 0, 0, 0, 0, 0, Ad.zero, Ad.zero, [], []⟩

/-- a packet's cells -/
def pktA (p : Pkt) (Ao : Option Addr) (no co : Nat) (Ab : Option Addr) (nb cb : Nat) : Array Value :=
  #[.int .i64 p.tos, .int .i64 p.id, .int .i64 p.flags, .int .i64 p.part, .int .i64 p.ttl, .int .i64 p.proto,
    .int .u8 p.src.a.toNat, .int .u8 p.src.b.toNat, .int .u8 p.src.c.toNat, .int .u8 p.src.d.toNat,
    .int .u8 p.dst.a.toNat, .int .u8 p.dst.b.toNat, .int .u8 p.dst.c.toNat, .int .u8 p.dst.d.toNat, .slice Ao no co, .slice Ab nb cb]

/-- a packet's options and body, as they lie in memory, from block lo on, below hi -/
structure PktAt (w : World) (lo hi : Nat) (p : Pkt) (Ao : Option Addr) (no co : Nat) (Ab : Option Addr) (nb cb : Nat) : Prop where
  opts : Rd w lo hi Ao no co p.opts
  body : Rd w lo hi Ab nb cb p.body

theorem PktAt.below {w w' : World} {lo hi B : Nat} {p : Pkt} {Ao Ab : Option Addr} {no co nb cb : Nat} (h : PktAt w lo hi p Ao no co Ab nb cb) (hb : Below B w w') (hB : hi ≤ B) : PktAt w' lo hi p Ao no co Ab nb cb :=
  ⟨h.opts.below hb hB, h.body.below hb hB⟩

theorem PktAt.wide {w : World} {lo hi lo' hi' : Nat} {p : Pkt} {Ao Ab : Option Addr} {no co nb cb : Nat} (h : PktAt w lo hi p Ao no co Ab nb cb) (h1 : lo' ≤ lo) (h2 : hi ≤ hi') : PktAt w lo' hi' p Ao no co Ab nb cb :=
  ⟨h.opts.wide h1 h2, h.body.wide h1 h2⟩

structure Msg where
  typ : Int
  code : Int
  rest : Nat
  body : List UInt8

def Msg.zero : Msg := ⟨0, 0, 0, []⟩

def msgA (m : Msg) (A : Option Addr) (n c : Nat) : Array Value := #[.int .i64 m.typ, .int .i64 m.code, .int .u32 m.rest, .slice A n c]

def whole (p : Pkt) : Bool := p.part == 0 && p.flags % 2 == 0

/-- the number of two bytes at a place -/
def at16 (l : List UInt8) (i : Nat) : Nat := beA 0 ((l.drop i).take 2)

def at32 (l : List UInt8) (i : Nat) : Nat := beA 0 ((l.drop i).take 4)

def at8 (l : List UInt8) (i : Nat) : Nat := beA 0 ((l.drop i).take 1)

def icmpGet (p : Pkt) : Int × Msg :=
  if p.proto ≠ 1 then (1, Msg.zero)
  else if whole p = false then (10, Msg.zero)
  else if p.body.length < 8 then (3, Msg.zero)
  else if ofL p.body ≠ 0 then (5, Msg.zero)
  else (0, ⟨at8 p.body 0, at8 p.body 1, at32 p.body 4, p.body.drop 8⟩)

/-- is a number a byte? -/
def isByte (v : Int) : Bool := decide (0 ≤ v) && decide (v ≤ 255)

/-- a sum put at a place -/
def putSum (l : List UInt8) (i s : Nat) : List UInt8 := (l.set i (lo8 ((s : Int) / 256))).set (i + 1) (lo8 s)

def icmpBody (m : Msg) : List UInt8 :=
  let b := [lo8 m.typ, lo8 m.code, 0, 0] ++ be32 m.rest ++ m.body
  putSum b 2 (ofL b)

def icmpPut (p : Pkt) (m : Msg) : Int × Pkt :=
  if isByte m.typ = false ∨ isByte m.code = false then (1, Pkt.zero)
  else if 1472 < m.body.length then (2, Pkt.zero)
  else (0, { p with proto := 1, body := icmpBody m })

def query (m : Msg) : Nat × Bool := if (m.typ ≠ 8 ∧ m.typ ≠ 0) ∨ m.code ≠ 0 then (0, false) else (m.rest / 65536, true)

def fault (m : Msg) : Bool := m.typ == 3 || m.typ == 11 || m.typ == 12
theorem at16_lt (xs : List UInt8) (i : Nat) : at16 xs i ≤ 65535 := by
  have := beA_bd (xs.drop i) 2
  unfold at16
  omega
end Go.Proofs.YtfofhpkafhpicaaGreatDoor

/- The contracts of package sum16. -/
namespace Go.Proofs.YtfofhpkafhpicaaGreatDoor
open Go.RowKit

set_option maxHeartbeats 400000 in
theorem add_any (a b : Int) (w : World) (h1 : 0 ≤ a) (ha : a ≤ 65535) (h2 : 0 ≤ b) (hb : b ≤ 65535) :
    Calls Tryz.prog 505 #[.int .i64 a, .int .i64 b] w fun e w' => e = .returned (.int .i64 (add16 a.toNat b.toNat : Nat)) ∧ w = w' := by
  go_enter Tryz.func505, Tryz.ntmps505
  go_wp2
  go_ret
  refine ⟨?_, rfl⟩
  simp only [add16]
  simp
  omega

theorem quiet_add_left {P : Program} {f : FuncId} {args : Array Value} {w : World} {a n : Nat} {v : Value}
    (h : Calls P f args (w.drewN (a + n)) fun e w' => e = .returned v ∧ w.drewN (a + n) = w') :
    Calls P f args (w.drewN (a + n)) fun e w'' => e = .returned v ∧ ∃ m, w'' = w.drewN (a + m) :=
  h.mono fun _ _ ⟨he, hm⟩ => ⟨he, n, hm.symm⟩

theorem pairs_any (s0 : Nat) (A : Option Addr) (n c : Nat) (xs : List UInt8) (lo hi : Nat) (w : World) (hs : s0 ≤ 65535) (hn : n ≤ 100000000) (h : Rd w lo hi A n c xs) :
    Calls Tryz.prog 411 #[.int .i64 (s0 : Int), .slice A n c] w fun e w' => e = .returned (.int .i64 (prs s0 xs : Nat)) ∧ ∃ k, w' = w.drewN k := by
  have hmax := h.max
  have hcap := h.cap
  have hlen := Lib.hid h.len
  have hat := Lib.hid h.at_
  clear h
  unfold maxLen at hmax
  go_enter Tryz.func411, Tryz.ntmps411
  go_wp2
  go_loopw [0, 5] (fun s i wr => ∃ (s' j : Nat), s' ≤ 65535 ∧ j ≤ n ∧ s = .int .i64 (s' : Int) ∧ i = .int .i64 (j : Int) ∧ Hid (prs s' (xs.drop j) = prs s0 xs ∧ j % 2 = 0) ∧ ∃ k, wr = w.drewN k)
    (fun _ i _ => n - (intOf i).toNat)
  case atStart => exact ⟨s0, 0, hs, by omega, rfl, rfl, ⟨by simp, rfl⟩, 0, rfl⟩
  case round =>
    obtain ⟨s', j, hs', hj, rfl, rfl, HP, k, rfl⟩ := hrel
    by_cases hlt : j + 1 < n
    · obtain ⟨g, o, rfl, _, _, hc⟩ := hat.out (by omega)
      obtain ⟨x, hx⟩ : ∃ x, xs[j]? = some x := ⟨_, List.getElem?_eq_getElem (by have := hlen.out; omega)⟩
      obtain ⟨y, hy⟩ : ∃ x, xs[j + 1]? = some x := ⟨_, List.getElem?_eq_getElem (by have := hlen.out; omega)⟩
      have c1 := hc _ _ hx
      have c2 := hc _ _ hy
      clear hc
      have HX := Lib.hid hx
      have HY := Lib.hid hy
      clear hx hy
      unfold bv at c1 c2
      have hx8 := u8le x
      have hy8 := u8le y
      go_wp2_with fail
      go_quiet ((go_at_call 505; exact quiet_add_left (add_any _ _ _ (by omega) (by omega) (by omega) (by omega))))
      go_wp2
      go_roundw
      case rel =>
        refine ⟨add16 s' (x.toNat * 256 + y.toNat), j + 2, add16_le _ _ hs' (by omega), by omega, ?_, by go_num, ?_, _, rfl⟩
        · congr 3
        · exact ⟨by rw [← prs_two s' xs j x y HX.out HY.out]; exact HP.out.1, by have := HP.out.2; omega⟩
      case measure => simp [intOf]; omega
    · by_cases h1 : j + 1 = n
      · obtain ⟨g, o, rfl, _, _, hc⟩ := hat.out (by omega)
        obtain ⟨x, hx⟩ : ∃ x, xs[j]? = some x := ⟨_, List.getElem?_eq_getElem (by have := hlen.out; omega)⟩
        have c1 := hc _ _ hx
        rw [show j = n - 1 from by omega] at c1
        clear hc
        have hfin : prs s' (xs.drop j) = add16 s' (x.toNat * 256) := prs_one s' xs j x hx (by have := hlen.out; omega)
        rw [HP.out.1] at hfin
        have hodd : ((n : Int) % 2 == 1) = true := by have := HP.out.2; simp; omega
        have HF := Lib.hid hfin
        have hle : n ≤ j + 1 := by omega
        have hpos : 1 ≤ n := by omega
        clear hx hfin h1 hlt HP hat hlen
        unfold bv at c1
        have hx8 := u8le x
        go_wp2_with (go_at_call 505; refine (add_any _ _ _ (by omega) (by omega) (by omega) (by omega)).mono ?_; rintro e w' ⟨rfl, rfl⟩)
        go_ret
        refine ⟨?_, k, rfl⟩
        rw [HF.out]
        congr 4
      · have hodd : ((n : Int) % 2 == 1) = false := by have := HP.out.2; simp; omega
        have hfin : s' = prs s0 xs := by rw [← HP.out.1, List.drop_of_length_le (by have := hlen.out; omega)]; rfl
        have HF := Lib.hid hfin
        have hle : n ≤ j := by omega
        clear hfin h1 hlt HP hat hlen
        go_wp2
        go_ret
        exact ⟨by rw [HF.out]; rfl, k, rfl⟩

theorem of_any (A : Option Addr) (n c : Nat) (xs : List UInt8) (lo hi : Nat) (w : World) (hn : n ≤ 100000000) (h : Rd w lo hi A n c xs) :
    Calls Tryz.prog 331 #[.slice A n c] w fun e w' => e = .returned (.int .i64 (ofL xs : Nat)) ∧ ∃ k, w' = w.drewN k := by
  have hle := prs_le xs 0 (by omega)
  go_enter Tryz.func331, Tryz.ntmps331
  go_wp2_with (go_at_call 411; refine (pairs_any 0 A n c xs lo hi _ (by omega) hn h).mono ?_; rintro e w' ⟨rfl, k, rfl⟩)
  go_ret
  refine ⟨?_, k, rfl⟩
  have e : ((65535 - prs 0 xs : Nat) : Int) = 65535 - (prs 0 xs : Nat) := by omega
  simp only [ofL, e]
  rfl

theorem of_sm (A : Option Addr) (n c : Nat) (xs : List UInt8) (lo hi : Nat) (w : World) (hn : n ≤ 100000000) (h : Rd w lo hi A n c xs) :
    Calls Tryz.prog 331 #[.slice A n c] w fun e w' => ∃ s : Nat, e = .returned (.int .i64 (s : Int)) ∧ s ≤ 65535 ∧ Hid (s = ofL xs) ∧ Sm w w' :=
  (of_any A n c xs lo hi w hn h).mono fun _ _ ⟨he, k, hw⟩ => ⟨_, he, ofL_le xs, rfl, hw ▸ Sm.of_drewN w k⟩
set_option maxHeartbeats 400000 in
theorem fits_any (A : Option Addr) (n c : Nat) (xs : List UInt8) (lo hi : Nat) (w : World) (hn : n ≤ 100000000) (h : Rd w lo hi A n c xs) :
    Calls Tryz.prog 372 #[.slice A n c] w fun e w' => e = .returned (.bool (ofL xs == 0)) ∧ ∃ k, w' = w.drewN k := by
  go_enter Tryz.func372, Tryz.ntmps372
  go_wp2_with fail
  refine (of_any A n c xs lo hi w hn h).mono ?_
  rintro e w1 ⟨rfl, k, rfl⟩
  go_wp2_with fail
  go_ret
  refine ⟨?_, k, rfl⟩
  have e : ((ofL xs : Int) == 0) = (ofL xs == 0) := by rw [Bool.eq_iff_iff]; simp
  rw [← e]
  rfl
end Go.Proofs.YtfofhpkafhpicaaGreatDoor
