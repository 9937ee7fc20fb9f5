/- Several texts in one: Bo9, Ptw. -/
import Derived.Test.YtfofhpkafhpicaaGreatDoorUp0
import Derived.Test.YtfofhpkafhpicaaGreatDoorMzp

/- Calls that are told by a contract with free names: value and objects, where arguments and objects are as told. (No program in it.) -/
namespace Go.Proofs.YtfofhpkafhpicaaGreatDoor
open Go.RowKit

def kBo (cs : List CC) : Inl := fun g xs L nx =>
  match cs.find? fun c => Nat.beq g c.g && Nat.beq nx c.nx with
  | some c => some (c.v, c.L', c.n', [xs = c.xs, L = c.L])
  | none => none
theorem kBo_ok {P : Program} {cs : List CC} (h : ∀ c ∈ cs, c.ok P) : InlOk P (kBo cs) := by
  intro g xs L nx v L' nx' q hh hq
  unfold kBo at hh
  split at hh
  · rename_i c hc
    have h1 := List.find?_some hc
    simp only [Bool.and_eq_true] at h1
    obtain ⟨h2, h3⟩ := h1
    simp only [Option.some.injEq, Prod.mk.injEq] at hh
    obtain ⟨rfl, rfl, rfl, rfl⟩ := hh
    obtain rfl := Nat.eq_of_beq_eq_true h2
    obtain rfl := Nat.eq_of_beq_eq_true h3
    obtain rfl := hq (xs = c.xs) (List.mem_cons_self ..)
    obtain rfl := hq (L = c.L) (List.mem_cons_of_mem _ (List.mem_cons_self ..))
    exact h c (List.mem_of_find?_eq_some hc)
  · cases hh
end Go.Proofs.YtfofhpkafhpicaaGreatDoor

/- Short words for what the runs of the law TopPorts print: datagrams and packets of a host, of the gate, of the peer. -/
namespace Go.Proofs.YtfofhpkafhpicaaGreatDoor
open Go.RowKit
abbrev dta : List UInt8 := [100, 97, 116, 97]
abbrev w8 (v : Int) : Int := IntKind.wrap IntKind.u8 v
abbrev SO (x : AObj) : Prop := SameO (some x) x
abbrev vi8 (x : Int) : AV := AV.val (Value.int IntKind.u8 x)
abbrev vi64 (x : Int) : AV := AV.val (Value.int IntKind.i64 x)
abbrev vi16 (x : Int) : AV := AV.val (Value.int IntKind.u16 x)
abbrev vi32 (x : Int) : AV := AV.val (Value.int IntKind.u32 x)
abbrev vi6u (x : Int) : AV := AV.val (Value.int IntKind.u64 x)
abbrev vb (x : Bool) : AV := AV.val (Value.bool x)
abbrev v0 : AV := AV.val (Value.slice none 0 0)
abbrev k32 (l : List UInt8) : List UInt8 := List.take 32 l
abbrev k12 (l : List UInt8) : List UInt8 := List.take 12 l
abbrev ln (l : List UInt8) : Nat := List.length l
abbrev uA (x v p : Int) : List UInt8 := udpP 192 168 1 x 8 8 4 (w8 v) p 80 dta
abbrev uB (v p : Int) : List UInt8 := udpP 203 0 113 1 8 8 4 (w8 v) p 80 dta
abbrev uC (v p : Int) : List UInt8 := udpP 8 8 4 (w8 v) 203 0 113 1 80 p dta
abbrev uD (x v p : Int) : List UInt8 := udpP 8 8 4 (w8 v) 192 168 1 x 80 p dta
abbrev iA (t x v : Int) (b : List UInt8) : List UInt8 := ipP t 17 192 168 1 x 8 8 4 (w8 v) b
abbrev iB (t v : Int) (b : List UInt8) : List UInt8 := ipP t 17 203 0 113 1 8 8 4 (w8 v) b
abbrev iC (t v : Int) (b : List UInt8) : List UInt8 := ipP t 17 8 8 4 (w8 v) 203 0 113 1 b
abbrev iD (t x v : Int) (b : List UInt8) : List UInt8 := ipP t 17 8 8 4 (w8 v) 192 168 1 x b
abbrev Z0 : Prop := (0 : Int) = (0 : Int)
abbrev E0 : Prop := ([] : List UInt8) = []
abbrev Wi (x : Int) : Prop := (0 : Int) ≤ x ∧ x ≤ (65535 : Int)
abbrev By (x : Int) : Prop := (0 : Int) ≤ x ∧ x ≤ (255 : Int)
abbrev yA (x v : Int) : Prop := byteP [192, 168, 1, x, 8, 8, 4, IntKind.wrap IntKind.u8 v]
abbrev yB (v : Int) : Prop := byteP [203, 0, 113, 1, 8, 8, 4, IntKind.wrap IntKind.u8 v]
abbrev yC (v : Int) : Prop := byteP [8, 8, 4, IntKind.wrap IntKind.u8 v, 203, 0, 113, 1]
abbrev yD (x v : Int) : Prop := byteP [8, 8, 4, IntKind.wrap IntKind.u8 v, 192, 168, 1, x]
end Go.Proofs.YtfofhpkafhpicaaGreatDoor
