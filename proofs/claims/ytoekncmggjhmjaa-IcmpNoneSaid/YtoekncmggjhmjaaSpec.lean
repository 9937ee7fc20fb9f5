/- What the packages ip4, udp, tcp and icmp compute, in plain Lean: no program in sight. -/
import Derived.Test.YtoekncmggjhmjaaReader
namespace Go.Proofs.Ytoekncmggjhmjaa
open Go.RowKit

structure Ad where
  a : UInt8
  b : UInt8
  c : UInt8
  d : UInt8

structure Pkt where
  tos : Int
  id : Int
  flags : Int
  part : Int
  ttl : Int
  proto : Int
  src : Ad
  dst : Ad
  opts : List UInt8
  body : List UInt8

def Ad.zero : Ad := ⟨0, 0, 0, 0⟩
def Pkt.zero : Pkt := ⟨0, 0, 0, 0, 0, 0, Ad.zero, Ad.zero, [], []⟩

/-- a packet's cells -/
def pktA (p : Pkt) (Ao : Option Addr) (no co : Nat) (Ab : Option Addr) (nb cb : Nat) : Array Value :=
  #[.int .i64 p.tos, .int .i64 p.id, .int .i64 p.flags, .int .i64 p.part, .int .i64 p.ttl, .int .i64 p.proto,
    .int .u8 p.src.a.toNat, .int .u8 p.src.b.toNat, .int .u8 p.src.c.toNat, .int .u8 p.src.d.toNat,
    .int .u8 p.dst.a.toNat, .int .u8 p.dst.b.toNat, .int .u8 p.dst.c.toNat, .int .u8 p.dst.d.toNat, .slice Ao no co, .slice Ab nb cb]

/-- a packet's options and body, as they lie in memory, from block lo on, below hi -/
structure PktAt (w : World) (lo hi : Nat) (p : Pkt) (Ao : Option Addr) (no co : Nat) (Ab : Option Addr) (nb cb : Nat) : Prop where
  opts : Rd w lo hi Ao no co p.opts
  body : Rd w lo hi Ab nb cb p.body

theorem PktAt.below {w w' : World} {lo hi B : Nat} {p : Pkt} {Ao Ab : Option Addr} {no co nb cb : Nat} (h : PktAt w lo hi p Ao no co Ab nb cb) (hb : Below B w w') (hB : hi ≤ B) : PktAt w' lo hi p Ao no co Ab nb cb :=
  ⟨h.opts.below hb hB, h.body.below hb hB⟩
theorem PktAt.wide {w : World} {lo hi lo' hi' : Nat} {p : Pkt} {Ao Ab : Option Addr} {no co nb cb : Nat} (h : PktAt w lo hi p Ao no co Ab nb cb) (h1 : lo' ≤ lo) (h2 : hi ≤ hi') : PktAt w lo' hi' p Ao no co Ab nb cb :=
  ⟨h.opts.wide h1 h2, h.body.wide h1 h2⟩

structure Msg where
  typ : Int
  code : Int
  rest : Nat
  body : List UInt8

def Msg.zero : Msg := ⟨0, 0, 0, []⟩
def msgA (m : Msg) (A : Option Addr) (n c : Nat) : Array Value := #[.int .i64 m.typ, .int .i64 m.code, .int .u32 m.rest, .slice A n c]

def whole (p : Pkt) : Bool := p.part == 0 && p.flags % 2 == 0

/-- the number of two bytes at a place -/
def at16 (l : List UInt8) (i : Nat) : Nat := beA 0 ((l.drop i).take 2)
def at32 (l : List UInt8) (i : Nat) : Nat := beA 0 ((l.drop i).take 4)
def at8 (l : List UInt8) (i : Nat) : Nat := beA 0 ((l.drop i).take 1)

def icmpGet (p : Pkt) : Int × Msg :=
  if p.proto ≠ 1 then (1, Msg.zero)
  else if whole p = false then (10, Msg.zero)
  else if p.body.length < 8 then (3, Msg.zero)
  else if ofL p.body ≠ 0 then (5, Msg.zero)
  else (0, ⟨at8 p.body 0, at8 p.body 1, at32 p.body 4, p.body.drop 8⟩)

/-- is a number a byte? -/
def isByte (v : Int) : Bool := decide (0 ≤ v) && decide (v ≤ 255)

/-- a sum put at a place -/
def putSum (l : List UInt8) (i s : Nat) : List UInt8 := (l.set i (lo8 ((s : Int) / 256))).set (i + 1) (lo8 s)

def icmpBody (m : Msg) : List UInt8 :=
  let b := [lo8 m.typ, lo8 m.code, 0, 0] ++ be32 m.rest ++ m.body
  putSum b 2 (ofL b)

def icmpPut (p : Pkt) (m : Msg) : Int × Pkt :=
  if isByte m.typ = false ∨ isByte m.code = false then (1, Pkt.zero)
  else if 1472 < m.body.length then (2, Pkt.zero)
  else (0, { p with proto := 1, body := icmpBody m })

def query (m : Msg) : Nat × Bool := if (m.typ ≠ 8 ∧ m.typ ≠ 0) ∨ m.code ≠ 0 then (0, false) else (m.rest / 65536, true)
def fault (m : Msg) : Bool := m.typ == 3 || m.typ == 11 || m.typ == 12

theorem rtP : RowTy Try.prog 26 16 := ⟨by kernel_rfl, by kernel_rfl⟩
theorem rtM : RowTy Try.prog 30 4 := ⟨by kernel_rfl, by kernel_rfl⟩
theorem rtP4 : RowTy Try.prog 37 16 := ⟨by kernel_rfl, by kernel_rfl⟩
theorem rtM4 : RowTy Try.prog 34 4 := ⟨by kernel_rfl, by kernel_rfl⟩
end Go.Proofs.Ytoekncmggjhmjaa
