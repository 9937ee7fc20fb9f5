/- Several texts in one: Bo9, Ptw, Pto, PtRunx, Ptx. -/
import Derived.Test.YtfofhpkafhpicaaGreatDoorUp0
import Derived.Test.YtfofhpkafhpicaaGreatDoorMzp
import Derived.Test.YtfofhpkafhpicaaGreatDoorRp

/- Calls that are told by a contract with free names: value and objects, where arguments and objects are as told. (No program in it.) -/
namespace Go.Proofs.YtfofhpkafhpicaaGreatDoor
open Go.RowKit

def kBo (cs : List CC) : Inl := fun g xs L nx =>
  match cs.find? fun c => Nat.beq g c.g && Nat.beq nx c.nx with
  | some c => some (c.v, c.L', c.n', [xs = c.xs, L = c.L])
  | none => none
theorem kBo_ok {P : Program} {cs : List CC} (h : ∀ c ∈ cs, c.ok P) : InlOk P (kBo cs) := by
  intro g xs L nx v L' nx' q hh hq
  unfold kBo at hh
  split at hh
  · rename_i c hc
    have h1 := List.find?_some hc
    simp only [Bool.and_eq_true] at h1
    obtain ⟨h2, h3⟩ := h1
    simp only [Option.some.injEq, Prod.mk.injEq] at hh
    obtain ⟨rfl, rfl, rfl, rfl⟩ := hh
    obtain rfl := Nat.eq_of_beq_eq_true h2
    obtain rfl := Nat.eq_of_beq_eq_true h3
    obtain rfl := hq (xs = c.xs) (List.mem_cons_self ..)
    obtain rfl := hq (L = c.L) (List.mem_cons_of_mem _ (List.mem_cons_self ..))
    exact h c (List.mem_of_find?_eq_some hc)
  · cases hh
end Go.Proofs.YtfofhpkafhpicaaGreatDoor

/- Short words for what the runs of the law TopPorts print: datagrams and packets of a host, of the gate, of the peer. -/
namespace Go.Proofs.YtfofhpkafhpicaaGreatDoor
open Go.RowKit
abbrev dta : List UInt8 := [100, 97, 116, 97]
abbrev w8 (v : Int) : Int := IntKind.wrap IntKind.u8 v
abbrev SO (x : AObj) : Prop := SameO (some x) x
abbrev vi8 (x : Int) : AV := AV.val (Value.int IntKind.u8 x)
abbrev vi64 (x : Int) : AV := AV.val (Value.int IntKind.i64 x)
abbrev vi16 (x : Int) : AV := AV.val (Value.int IntKind.u16 x)
abbrev vi32 (x : Int) : AV := AV.val (Value.int IntKind.u32 x)
abbrev vi6u (x : Int) : AV := AV.val (Value.int IntKind.u64 x)
abbrev vb (x : Bool) : AV := AV.val (Value.bool x)
abbrev v0 : AV := AV.val (Value.slice none 0 0)
abbrev k32 (l : List UInt8) : List UInt8 := List.take 32 l
abbrev k12 (l : List UInt8) : List UInt8 := List.take 12 l
abbrev ln (l : List UInt8) : Nat := List.length l
abbrev uA (x v p : Int) : List UInt8 := udpP 192 168 1 x 8 8 4 (w8 v) p 80 dta
abbrev uB (v p : Int) : List UInt8 := udpP 203 0 113 1 8 8 4 (w8 v) p 80 dta
abbrev uC (v p : Int) : List UInt8 := udpP 8 8 4 (w8 v) 203 0 113 1 80 p dta
abbrev uD (x v p : Int) : List UInt8 := udpP 8 8 4 (w8 v) 192 168 1 x 80 p dta
abbrev iA (t x v : Int) (b : List UInt8) : List UInt8 := ipP t 17 192 168 1 x 8 8 4 (w8 v) b
abbrev iB (t v : Int) (b : List UInt8) : List UInt8 := ipP t 17 203 0 113 1 8 8 4 (w8 v) b
abbrev iC (t v : Int) (b : List UInt8) : List UInt8 := ipP t 17 8 8 4 (w8 v) 203 0 113 1 b
abbrev iD (t x v : Int) (b : List UInt8) : List UInt8 := ipP t 17 8 8 4 (w8 v) 192 168 1 x b
abbrev Z0 : Prop := (0 : Int) = (0 : Int)
abbrev E0 : Prop := ([] : List UInt8) = []
abbrev Wi (x : Int) : Prop := (0 : Int) ≤ x ∧ x ≤ (65535 : Int)
abbrev By (x : Int) : Prop := (0 : Int) ≤ x ∧ x ≤ (255 : Int)
abbrev yA (x v : Int) : Prop := byteP [192, 168, 1, x, 8, 8, 4, IntKind.wrap IntKind.u8 v]
abbrev yB (v : Int) : Prop := byteP [203, 0, 113, 1, 8, 8, 4, IntKind.wrap IntKind.u8 v]
abbrev yC (v : Int) : Prop := byteP [8, 8, 4, IntKind.wrap IntKind.u8 v, 203, 0, 113, 1]
abbrev yD (x v : Int) : Prop := byteP [8, 8, 4, IntKind.wrap IntKind.u8 v, 192, 168, 1, x]
end Go.Proofs.YtfofhpkafhpicaaGreatDoor

/- The objects that the runs of the law TopPorts meet. -/
namespace Go.Proofs.YtfofhpkafhpicaaGreatDoor
open Go.RowKit
set_option linter.unusedVariables false
def pj0 : AObj := { t := 5, sz := 1, exact := false, fz := false, body := Body.bytes [1, 3, (6 : UInt8)] }
def pj1 : AObj := { t := 5, sz := 1, exact := false, fz := false, body := Body.bytes [203, 0, 113, (254 : UInt8)] }
def pj2 : AObj := { t := 5, sz := 1, exact := false, fz := false, body := Body.bytes [203, 0, 113, (1 : UInt8)] }
def pj3 : AObj := { t := 5, sz := 1, exact := false, fz := false, body := Body.bytes [(3 : UInt8)] }
def pj4 : AObj := { t := 184, sz := 2, exact := false, fz := false, body := Body.rows [[vi64 53, AV.sl 20826 0 1 none], [vi64 50, AV.sl 20915 0 4 none], [vi64 54, AV.sl 21018 0 4 none], [vi64 55, AV.sl 21135 0 3 none]] }
def pj5 : AObj := { t := 60, sz := 146, exact := true, fz := false, body := Body.rows [[vi8 192, vi8 168, vi8 1, vi8 1, vi8 192, vi8 168, vi8 1, vi8 0, vi64 24, vi8 2, vi8 0, vi8 0, vi8 0, vi8 0, vi8 1, vi8 2, vi8 0, vi8 0, vi8 0, vi8 0, vi8 2, vi8 192, vi8 168, vi8 1, vi8 100, vi8 192, vi8 168, vi8 1, vi8 131, vi64 3600, vi8 9, vi8 9, vi8 9, vi8 9, vi64 120, vi64 7200, vi64 30, vi64 40000, v0, v0, vi8 192, vi8 168, vi8 1, vi8 100, vi8 192, vi8 168, vi8 1, vi8 101, vi8 192, vi8 168, vi8 1, vi8 102, vi8 0, vi8 0, vi8 0, vi8 0, vi8 0, vi8 0, vi8 0, vi8 0, vi8 0, vi8 0, vi8 0, vi8 0, vi8 0, vi8 0, vi8 0, vi8 0, vi8 0, vi8 0, vi8 0, vi8 0, vi8 203, vi8 0, vi8 113, vi8 1, vb true, vi64 0, vi64 0, vi64 0, vi64 0, vi64 0, vi64 0, vi8 0, vi8 0, vi8 0, vi8 0, vi8 0, vi8 0, vi8 0, vi8 0, v0, v0, vb false, vi64 0, vi64 0, vi64 0, vi64 0, vi64 0, vi64 0, vi8 0, vi8 0, vi8 0, vi8 0, vi8 0, vi8 0, vi8 0, vi8 0, v0, v0, vi64 0, vi64 0, v0, v0, v0, v0, v0, vi64 1, vi64 0, vi32 5, vi64 0, vi64 32768, vi8 0, vi8 0, vi8 0, vi8 0, vi8 0, vi8 0, vi8 0, vi8 0, vi8 0, vi8 0, vi8 0, vi8 0, vi8 0, vi8 0, vi8 0, vi8 0, vi8 2, vi8 0, vi8 0, vi8 0, vi8 0, vi8 2, AV.sl 21130 0 4 none, vb false]] }
def pj6 : AObj := { t := 2, sz := 1, exact := false, fz := false, body := Body.rows [[vi64 1], [vi64 2], [vi64 4], [vi64 8], [vi64 16], [vi64 32], [vi64 64], [vi64 128], [vi64 256], [vi64 512]] }
def pj7 : AObj := { t := 345, sz := 3, exact := true, fz := false, body := Body.rows [[AV.ptr 7819 0 0, vi64 0, AV.sl 29835 0 10 none]] }
def pj8 : AObj := { t := 459, sz := 2, exact := true, fz := false, body := Body.rows [[vi64 64, v0]] }
def pj9 : AObj := { t := 286, sz := 3, exact := true, fz := false, body := Body.rows [[vi64 32, v0, AV.ptr 7967 0 0]] }
def pj10 : AObj := { t := 456, sz := 2, exact := true, fz := false, body := Body.rows [[vi64 128, v0]] }
def pj11 : AObj := { t := 340, sz := 5, exact := true, fz := false, body := Body.rows [[AV.ptr 7819 0 0, AV.ptr 7923 0 0, vi64 120, vi64 7200, vi64 30]] }
def pj12 : AObj := { t := 331, sz := 4, exact := true, fz := false, body := Body.rows [[vi64 40000, vi64 128, vi64 1, v0]] }
def pj13 : AObj := { t := 271, sz := 38, exact := true, fz := false, body := Body.rows [[vi8 2, vi8 0, vi8 0, vi8 0, vi8 0, vi8 2, vi64 3, vi64 1, vi32 5, vi8 203, vi8 0, vi8 113, vi8 1, vi8 255, vi8 255, vi8 255, vi8 0, vi8 203, vi8 0, vi8 113, vi8 254, vi8 203, vi8 0, vi8 113, vi8 254, vi64 3001, vi64 1, vi8 203, vi8 0, vi8 113, vi8 1, vi8 203, vi8 0, vi8 113, vi8 254, vi64 1, vi64 4, vi64 1]] }
def pj14 : AObj := { t := 408, sz := 12, exact := false, fz := false, body := Body.rows [[vi8 2, vi8 1, vi8 0, vi8 0, vi8 0, vi8 0, vi8 192, vi8 168, vi8 1, vi8 100, vi64 3601, vb false], [vi8 2, vi8 1, vi8 0, vi8 0, vi8 0, vi8 1, vi8 192, vi8 168, vi8 1, vi8 101, vi64 3601, vb false], [vi8 2, vi8 1, vi8 0, vi8 0, vi8 0, vi8 2, vi8 192, vi8 168, vi8 1, vi8 102, vi64 3601, vb false]] }
def pj15 : AObj := { t := 405, sz := 6, exact := true, fz := false, body := Body.rows [[vi32 3232235876, vi32 3232235907, v0, AV.sl 112963 0 3 none, AV.emap, vi64 1]] }
def pj16 : AObj := { t := 259, sz := 41, exact := true, fz := false, body := Body.rows [[vi8 192, vi8 168, vi8 1, vi8 1, vi8 192, vi8 168, vi8 1, vi8 0, vi64 24, vi8 2, vi8 0, vi8 0, vi8 0, vi8 0, vi8 1, vi8 2, vi8 0, vi8 0, vi8 0, vi8 0, vi8 2, vi8 192, vi8 168, vi8 1, vi8 100, vi8 192, vi8 168, vi8 1, vi8 131, vi64 3600, vi8 9, vi8 9, vi8 9, vi8 9, vi64 120, vi64 7200, vi64 30, vi64 40000, v0, v0, AV.ptr 7733 0 0]] }
def pj17 : AObj := { t := 298, sz := 3, exact := true, fz := false, body := Body.rows [[vi64 600, vi64 0, v0]] }
def pj18 : AObj := { t := 298, sz := 3, exact := true, fz := false, body := Body.rows [[vi64 600, vi64 1, v0]] }
def pj19 : AObj := { t := 124, sz := 51, exact := true, fz := false, body := Body.rows [[vi8 192, vi8 168, vi8 1, vi8 1, vi8 192, vi8 168, vi8 1, vi8 0, vi64 24, vi8 2, vi8 0, vi8 0, vi8 0, vi8 0, vi8 1, vi8 2, vi8 0, vi8 0, vi8 0, vi8 0, vi8 2, vi8 192, vi8 168, vi8 1, vi8 100, vi8 192, vi8 168, vi8 1, vi8 131, vi64 3600, vi8 9, vi8 9, vi8 9, vi8 9, vi64 120, vi64 7200, vi64 30, vi64 40000, v0, v0, vi64 1, vi32 5, AV.ptr 6026 0 0, AV.ptr 29579 0 0, AV.ptr 7746 0 0, AV.ptr 7785 0 0, AV.ptr 7819 0 0, AV.ptr 7932 0 0, AV.ptr 7975 0 0, AV.ptr 7991 0 0, v0]] }
def pj20 : AObj := { t := 64, sz := 2, exact := true, fz := false, body := Body.rows [[AV.ptr 5973 0 0, AV.ptr 8002 0 0]] }
def pj21 : AObj := { t := 296, sz := 14, exact := false, fz := false, body := Body.rows [[vi8 203, vi8 0, vi8 113, vi8 254, vb true, vi8 2, vi8 2, vi8 0, vi8 0, vi8 0, vi8 1, vi64 1, vi64 0, v0]] }
def pj22 : AObj := { t := 298, sz := 3, exact := true, fz := false, body := Body.rows [[vi64 600, vi64 1, AV.sl 119495 0 1 none]] }
def pj23 (port o1 : Int) : AObj := { t := 174, sz := 9, exact := false, fz := false, body := Body.rows [[vi64 17, vi64 o1, vi8 192, vi8 168, vi8 1, vi8 100, vi64 port, vi64 1, vi64 121]] }
def pj24 : AObj := { t := 331, sz := 4, exact := true, fz := false, body := Body.rows [[vi64 40000, vi64 128, vi64 1, AV.sl 119125 0 1 none]] }
def pj25 (v o1 : Int) : AObj := { t := 5, sz := 1, exact := false, fz := false, body := Body.bytes (uB v o1) }
def pj26 : AObj := { t := 5, sz := 1, exact := false, fz := false, body := Body.bytes [] }
def pj27 (v : Int) : AObj := { t := 60, sz := 146, exact := true, fz := false, body := Body.rows [[vi8 192, vi8 168, vi8 1, vi8 1, vi8 192, vi8 168, vi8 1, vi8 0, vi64 24, vi8 2, vi8 0, vi8 0, vi8 0, vi8 0, vi8 1, vi8 2, vi8 0, vi8 0, vi8 0, vi8 0, vi8 2, vi8 192, vi8 168, vi8 1, vi8 100, vi8 192, vi8 168, vi8 1, vi8 131, vi64 3600, vi8 9, vi8 9, vi8 9, vi8 9, vi64 120, vi64 7200, vi64 30, vi64 40000, v0, v0, vi8 192, vi8 168, vi8 1, vi8 100, vi8 192, vi8 168, vi8 1, vi8 101, vi8 192, vi8 168, vi8 1, vi8 102, vi8 0, vi8 0, vi8 0, vi8 0, vi8 0, vi8 0, vi8 0, vi8 0, vi8 0, vi8 0, vi8 0, vi8 0, vi8 0, vi8 0, vi8 0, vi8 0, vi8 0, vi8 0, vi8 0, vi8 0, vi8 203, vi8 0, vi8 113, vi8 1, vb true, vi64 0, vi64 0, vi64 0, vi64 0, vi64 63, vi64 17, vi8 203, vi8 0, vi8 113, vi8 1, vi8 8, vi8 8, vi8 4, vi8 (w8 v), AV.sl 121517 0 0 none, AV.sl 121518 0 12 none, vb true, vi64 0, vi64 0, vi64 0, vi64 0, vi64 0, vi64 0, vi8 0, vi8 0, vi8 0, vi8 0, vi8 0, vi8 0, vi8 0, vi8 0, v0, v0, vi64 0, vi64 0, v0, v0, v0, v0, v0, vi64 1, vi64 0, vi32 5, vi64 0, vi64 32768, vi8 0, vi8 0, vi8 0, vi8 0, vi8 0, vi8 0, vi8 0, vi8 0, vi8 0, vi8 0, vi8 0, vi8 0, vi8 0, vi8 0, vi8 0, vi8 0, vi8 2, vi8 0, vi8 0, vi8 0, vi8 0, vi8 2, AV.sl 21130 0 4 none, vb false]] }
def pj28 (v o1 : Int) : AObj := { t := 5, sz := 1, exact := false, fz := false, body := Body.bytes ((2 : UInt8) :: (2 : UInt8) :: (0 : UInt8) :: (0 : UInt8) :: (0 : UInt8) :: (1 : UInt8) :: (2 : UInt8) :: (0 : UInt8) :: (0 : UInt8) :: (0 : UInt8) :: (0 : UInt8) :: (2 : UInt8) :: (8 : UInt8) :: (0 : UInt8) :: k32 (k32 (iB 63 v (k12 (uB v o1))))) }
def pj29 : AObj := { t := 5, sz := 1, exact := false, fz := false, body := Body.bytes [255, 255, 255, 255, 255, 255, 2, 0, 0, 0, 0, 2, 8, 6, 0, 1, 8, 0, 6, 4, 0, 1, 2, 0, 0, 0, 0, 2, 203, 0, 113, 1, 0, 0, 0, 0, 0, 0, 203, 0, 113, (254 : UInt8)] }
def pj30 : AObj := { t := 86, sz := 2, exact := false, fz := false, body := Body.rows [[vi64 1, AV.sl 119699 0 42 none], [vi64 1, AV.sl 121336 0 (14 + 32) none]] }
def pj31 (v port : Int) : AObj := { t := 5, sz := 1, exact := false, fz := false, body := Body.bytes (iA 64 100 v (k12 (uA 100 v port))) }
def pj32 : AObj := { t := 218, sz := 14, exact := true, fz := false, body := Body.rows [[vi8 2, vi8 0, vi8 0, vi8 0, vi8 0, vi8 1, vi8 2, vi8 1, vi8 0, vi8 0, vi8 0, vi8 0, vi64 2048, AV.sl 117326 0 32 none]] }
def pj33 (v port : Int) : AObj := { t := 5, sz := 1, exact := false, fz := false, body := Body.bytes (uA 100 v port) }
def pj34 (v o1 : Int) : AObj := { t := 5, sz := 1, exact := false, fz := false, body := Body.bytes (k32 (iB 63 v (k12 (uB v o1)))) }
def pj35 : AObj := { t := 28, sz := 1, exact := true, fz := false, body := Body.rows [[AV.sl 119441 0 (0 + 32) none]] }
def pj36 : AObj := { t := 296, sz := 14, exact := false, fz := false, body := Body.rows [[vi8 203, vi8 0, vi8 113, vi8 254, vb false, vi8 0, vi8 0, vi8 0, vi8 0, vi8 0, vi8 0, vi64 1, vi64 1, AV.sl 119465 0 1 none]] }
def pj37 : AObj := { t := 5, sz := 1, exact := false, fz := false, body := Body.bytes [0, 1, 8, 0, 6, 4, 0, 2, 2, 2, 0, 0, 0, 1, 203, 0, 113, 254, 2, 0, 0, 0, 0, 2, 203, 0, 113, (1 : UInt8)] }
def pj38 : AObj := { t := 218, sz := 14, exact := true, fz := false, body := Body.rows [[vi8 2, vi8 0, vi8 0, vi8 0, vi8 0, vi8 2, vi8 2, vi8 2, vi8 0, vi8 0, vi8 0, vi8 1, vi64 2054, AV.sl 120063 0 28 none]] }
def pj39 (port o1 o2 : Int) : AObj := { t := 174, sz := 9, exact := false, fz := false, body := Body.rows [[vi64 17, vi64 o1, vi8 192, vi8 168, vi8 1, vi8 100, vi64 port, vi64 1, vi64 121], [vi64 17, vi64 o2, vi8 192, vi8 168, vi8 1, vi8 101, vi64 port, vi64 1, vi64 121]] }
def pj40 : AObj := { t := 331, sz := 4, exact := true, fz := false, body := Body.rows [[vi64 40000, vi64 128, vi64 1, AV.sl 124179 0 2 none]] }
def pj41 (v o2 : Int) : AObj := { t := 5, sz := 1, exact := false, fz := false, body := Body.bytes (uB v o2) }
def pj42 (v : Int) : AObj := { t := 60, sz := 146, exact := true, fz := false, body := Body.rows [[vi8 192, vi8 168, vi8 1, vi8 1, vi8 192, vi8 168, vi8 1, vi8 0, vi64 24, vi8 2, vi8 0, vi8 0, vi8 0, vi8 0, vi8 1, vi8 2, vi8 0, vi8 0, vi8 0, vi8 0, vi8 2, vi8 192, vi8 168, vi8 1, vi8 100, vi8 192, vi8 168, vi8 1, vi8 131, vi64 3600, vi8 9, vi8 9, vi8 9, vi8 9, vi64 120, vi64 7200, vi64 30, vi64 40000, v0, v0, vi8 192, vi8 168, vi8 1, vi8 100, vi8 192, vi8 168, vi8 1, vi8 101, vi8 192, vi8 168, vi8 1, vi8 102, vi8 0, vi8 0, vi8 0, vi8 0, vi8 0, vi8 0, vi8 0, vi8 0, vi8 0, vi8 0, vi8 0, vi8 0, vi8 0, vi8 0, vi8 0, vi8 0, vi8 0, vi8 0, vi8 0, vi8 0, vi8 203, vi8 0, vi8 113, vi8 1, vb true, vi64 0, vi64 0, vi64 0, vi64 0, vi64 63, vi64 17, vi8 203, vi8 0, vi8 113, vi8 1, vi8 8, vi8 8, vi8 4, vi8 (w8 v), AV.sl 124826 0 0 none, AV.sl 124827 0 12 none, vb true, vi64 0, vi64 0, vi64 0, vi64 0, vi64 0, vi64 0, vi8 0, vi8 0, vi8 0, vi8 0, vi8 0, vi8 0, vi8 0, vi8 0, v0, v0, vi64 0, vi64 0, v0, v0, v0, v0, v0, vi64 1, vi64 0, vi32 5, vi64 0, vi64 32768, vi8 0, vi8 0, vi8 0, vi8 0, vi8 0, vi8 0, vi8 0, vi8 0, vi8 0, vi8 0, vi8 0, vi8 0, vi8 0, vi8 0, vi8 0, vi8 0, vi8 2, vi8 0, vi8 0, vi8 0, vi8 0, vi8 2, AV.sl 21130 0 4 none, vb false]] }
def pj43 (v o2 : Int) : AObj := { t := 5, sz := 1, exact := false, fz := false, body := Body.bytes ((2 : UInt8) :: (2 : UInt8) :: (0 : UInt8) :: (0 : UInt8) :: (0 : UInt8) :: (1 : UInt8) :: (2 : UInt8) :: (0 : UInt8) :: (0 : UInt8) :: (0 : UInt8) :: (0 : UInt8) :: (2 : UInt8) :: (8 : UInt8) :: (0 : UInt8) :: k32 (iB 63 v (k12 (uB v o2)))) }
def pj44 : AObj := { t := 86, sz := 2, exact := false, fz := false, body := Body.rows [[vi64 1, AV.sl 124649 0 (14 + 32) none]] }
def pj45 (v port : Int) : AObj := { t := 5, sz := 1, exact := false, fz := false, body := Body.bytes (iA 64 101 v (k12 (uA 101 v port))) }
def pj46 : AObj := { t := 218, sz := 14, exact := true, fz := false, body := Body.rows [[vi8 2, vi8 0, vi8 0, vi8 0, vi8 0, vi8 1, vi8 2, vi8 1, vi8 0, vi8 0, vi8 0, vi8 1, vi64 2048, AV.sl 122077 0 32 none]] }
def pj47 (v port : Int) : AObj := { t := 5, sz := 1, exact := false, fz := false, body := Body.bytes (uA 101 v port) }
def pj48 (v o2 : Int) : AObj := { t := 5, sz := 1, exact := false, fz := false, body := Body.bytes (iB 63 v (k12 (uB v o2))) }
def pj49 : AObj := { t := 296, sz := 14, exact := false, fz := false, body := Body.rows [[vi8 192, vi8 168, vi8 1, vi8 101, vb true, vi8 2, vi8 1, vi8 0, vi8 0, vi8 0, vi8 1, vi64 1, vi64 0, v0]] }
def pj50 : AObj := { t := 298, sz := 3, exact := true, fz := false, body := Body.rows [[vi64 600, vi64 1, AV.sl 127224 0 1 none]] }
def pj51 (v port : Int) : AObj := { t := 5, sz := 1, exact := false, fz := false, body := Body.bytes ((2 : UInt8) :: (1 : UInt8) :: (0 : UInt8) :: (0 : UInt8) :: (0 : UInt8) :: (1 : UInt8) :: (2 : UInt8) :: (0 : UInt8) :: (0 : UInt8) :: (0 : UInt8) :: (0 : UInt8) :: (1 : UInt8) :: (8 : UInt8) :: (0 : UInt8) :: k32 (k32 (iD 59 101 v (uD 101 v port)))) }
def pj52 : AObj := { t := 5, sz := 1, exact := false, fz := false, body := Body.bytes [255, 255, 255, 255, 255, 255, 2, 0, 0, 0, 0, 1, 8, 6, 0, 1, 8, 0, 6, 4, 0, 1, 2, 0, 0, 0, 0, 1, 192, 168, 1, 1, 0, 0, 0, 0, 0, 0, 192, 168, 1, (101 : UInt8)] }
def pj53 : AObj := { t := 86, sz := 2, exact := false, fz := false, body := Body.rows [[vi64 0, AV.sl 127397 0 42 none], [vi64 0, AV.sl 129275 0 (14 + 32) none]] }
def pj54 (v o2 : Int) : AObj := { t := 5, sz := 1, exact := false, fz := false, body := Body.bytes (iC 60 v (k12 (uC v o2))) }
def pj55 : AObj := { t := 218, sz := 14, exact := true, fz := false, body := Body.rows [[vi8 2, vi8 0, vi8 0, vi8 0, vi8 0, vi8 2, vi8 2, vi8 2, vi8 0, vi8 0, vi8 0, vi8 1, vi64 2048, AV.sl 125402 0 32 none]] }
def pj56 (v o2 : Int) : AObj := { t := 5, sz := 1, exact := false, fz := false, body := Body.bytes (uC v o2) }
def pj57 (v port : Int) : AObj := { t := 5, sz := 1, exact := false, fz := false, body := Body.bytes (k32 (iD 59 101 v (uD 101 v port))) }
def pj58 : AObj := { t := 28, sz := 1, exact := true, fz := false, body := Body.rows [[AV.sl 127170 0 (0 + 32) none]] }
def pj59 : AObj := { t := 296, sz := 14, exact := false, fz := false, body := Body.rows [[vi8 192, vi8 168, vi8 1, vi8 101, vb false, vi8 0, vi8 0, vi8 0, vi8 0, vi8 0, vi8 0, vi64 1, vi64 1, AV.sl 127194 0 1 none]] }
def pj60 : AObj := { t := 5, sz := 1, exact := false, fz := false, body := Body.bytes [0, 1, 8, 0, 6, 4, 0, 2, 2, 1, 0, 0, 0, 1, 192, 168, 1, 101, 2, 0, 0, 0, 0, 1, 192, 168, 1, (1 : UInt8)] }
def pj61 : AObj := { t := 218, sz := 14, exact := true, fz := false, body := Body.rows [[vi8 2, vi8 0, vi8 0, vi8 0, vi8 0, vi8 1, vi8 2, vi8 1, vi8 0, vi8 0, vi8 0, vi8 1, vi64 2054, AV.sl 127902 0 28 none]] }
def pj62 : AObj := { t := 296, sz := 14, exact := false, fz := false, body := Body.rows [[vi8 192, vi8 168, vi8 1, vi8 101, vb true, vi8 2, vi8 1, vi8 0, vi8 0, vi8 0, vi8 1, vi64 1, vi64 0, v0], [vi8 192, vi8 168, vi8 1, vi8 100, vb true, vi8 2, vi8 1, vi8 0, vi8 0, vi8 0, vi8 0, vi64 1, vi64 0, v0]] }
def pj63 : AObj := { t := 298, sz := 3, exact := true, fz := false, body := Body.rows [[vi64 600, vi64 1, AV.sl 131810 0 2 none]] }
def pj64 (v port : Int) : AObj := { t := 5, sz := 1, exact := false, fz := false, body := Body.bytes ((2 : UInt8) :: (1 : UInt8) :: (0 : UInt8) :: (0 : UInt8) :: (0 : UInt8) :: (0 : UInt8) :: (2 : UInt8) :: (0 : UInt8) :: (0 : UInt8) :: (0 : UInt8) :: (0 : UInt8) :: (1 : UInt8) :: (8 : UInt8) :: (0 : UInt8) :: k32 (k32 (iD 59 100 v (uD 100 v port)))) }
def pj65 : AObj := { t := 5, sz := 1, exact := false, fz := false, body := Body.bytes [255, 255, 255, 255, 255, 255, 2, 0, 0, 0, 0, 1, 8, 6, 0, 1, 8, 0, 6, 4, 0, 1, 2, 0, 0, 0, 0, 1, 192, 168, 1, 1, 0, 0, 0, 0, 0, 0, 192, 168, 1, (100 : UInt8)] }
def pj66 : AObj := { t := 86, sz := 2, exact := false, fz := false, body := Body.rows [[vi64 0, AV.sl 131983 0 42 none], [vi64 0, AV.sl 133879 0 (14 + 32) none]] }
def pj67 (v o1 : Int) : AObj := { t := 5, sz := 1, exact := false, fz := false, body := Body.bytes (iC 60 v (k12 (uC v o1))) }
def pj68 : AObj := { t := 218, sz := 14, exact := true, fz := false, body := Body.rows [[vi8 2, vi8 0, vi8 0, vi8 0, vi8 0, vi8 2, vi8 2, vi8 2, vi8 0, vi8 0, vi8 0, vi8 1, vi64 2048, AV.sl 130046 0 32 none]] }
def pj69 (v o1 : Int) : AObj := { t := 5, sz := 1, exact := false, fz := false, body := Body.bytes (uC v o1) }
def pj70 (v port : Int) : AObj := { t := 5, sz := 1, exact := false, fz := false, body := Body.bytes (k32 (iD 59 100 v (uD 100 v port))) }
def pj71 : AObj := { t := 28, sz := 1, exact := true, fz := false, body := Body.rows [[AV.sl 131738 0 (0 + 32) none]] }
def pj72 : AObj := { t := 296, sz := 14, exact := false, fz := false, body := Body.rows [[vi8 192, vi8 168, vi8 1, vi8 101, vb true, vi8 2, vi8 1, vi8 0, vi8 0, vi8 0, vi8 1, vi64 1, vi64 0, v0], [vi8 192, vi8 168, vi8 1, vi8 100, vb false, vi8 0, vi8 0, vi8 0, vi8 0, vi8 0, vi8 0, vi64 1, vi64 1, AV.sl 131780 0 1 none]] }
def pj73 : AObj := { t := 5, sz := 1, exact := false, fz := false, body := Body.bytes [0, 1, 8, 0, 6, 4, 0, 2, 2, 1, 0, 0, 0, 0, 192, 168, 1, 100, 2, 0, 0, 0, 0, 1, 192, 168, 1, (1 : UInt8)] }
def pj74 : AObj := { t := 218, sz := 14, exact := true, fz := false, body := Body.rows [[vi8 2, vi8 0, vi8 0, vi8 0, vi8 0, vi8 1, vi8 2, vi8 1, vi8 0, vi8 0, vi8 0, vi8 0, vi64 2054, AV.sl 132488 0 28 none]] }
def pj75 (port o1 o2 : Int) : AObj := { t := 174, sz := 9, exact := false, fz := false, body := Body.rows [[vi64 17, vi64 o1, vi8 192, vi8 168, vi8 1, vi8 100, vi64 port, vi64 1, vi64 121], [vi64 17, vi64 o2, vi8 192, vi8 168, vi8 1, vi8 102, vi64 port, vi64 1, vi64 121]] }
def pj76 : AObj := { t := 331, sz := 4, exact := true, fz := false, body := Body.rows [[vi64 40000, vi64 128, vi64 1, AV.sl 124197 0 2 none]] }
def pj77 (v : Int) : AObj := { t := 60, sz := 146, exact := true, fz := false, body := Body.rows [[vi8 192, vi8 168, vi8 1, vi8 1, vi8 192, vi8 168, vi8 1, vi8 0, vi64 24, vi8 2, vi8 0, vi8 0, vi8 0, vi8 0, vi8 1, vi8 2, vi8 0, vi8 0, vi8 0, vi8 0, vi8 2, vi8 192, vi8 168, vi8 1, vi8 100, vi8 192, vi8 168, vi8 1, vi8 131, vi64 3600, vi8 9, vi8 9, vi8 9, vi8 9, vi64 120, vi64 7200, vi64 30, vi64 40000, v0, v0, vi8 192, vi8 168, vi8 1, vi8 100, vi8 192, vi8 168, vi8 1, vi8 101, vi8 192, vi8 168, vi8 1, vi8 102, vi8 0, vi8 0, vi8 0, vi8 0, vi8 0, vi8 0, vi8 0, vi8 0, vi8 0, vi8 0, vi8 0, vi8 0, vi8 0, vi8 0, vi8 0, vi8 0, vi8 0, vi8 0, vi8 0, vi8 0, vi8 203, vi8 0, vi8 113, vi8 1, vb true, vi64 0, vi64 0, vi64 0, vi64 0, vi64 63, vi64 17, vi8 203, vi8 0, vi8 113, vi8 1, vi8 8, vi8 8, vi8 4, vi8 (w8 v), AV.sl 124844 0 0 none, AV.sl 124845 0 12 none, vb true, vi64 0, vi64 0, vi64 0, vi64 0, vi64 0, vi64 0, vi8 0, vi8 0, vi8 0, vi8 0, vi8 0, vi8 0, vi8 0, vi8 0, v0, v0, vi64 0, vi64 0, v0, v0, v0, v0, v0, vi64 1, vi64 0, vi32 5, vi64 0, vi64 32768, vi8 0, vi8 0, vi8 0, vi8 0, vi8 0, vi8 0, vi8 0, vi8 0, vi8 0, vi8 0, vi8 0, vi8 0, vi8 0, vi8 0, vi8 0, vi8 0, vi8 2, vi8 0, vi8 0, vi8 0, vi8 0, vi8 2, AV.sl 21130 0 4 none, vb false]] }
def pj78 : AObj := { t := 86, sz := 2, exact := false, fz := false, body := Body.rows [[vi64 1, AV.sl 124667 0 (14 + 32) none]] }
def pj79 (v port : Int) : AObj := { t := 5, sz := 1, exact := false, fz := false, body := Body.bytes (iA 64 102 v (k12 (uA 102 v port))) }
def pj80 : AObj := { t := 218, sz := 14, exact := true, fz := false, body := Body.rows [[vi8 2, vi8 0, vi8 0, vi8 0, vi8 0, vi8 1, vi8 2, vi8 1, vi8 0, vi8 0, vi8 0, vi8 2, vi64 2048, AV.sl 122077 0 32 none]] }
def pj81 (v port : Int) : AObj := { t := 5, sz := 1, exact := false, fz := false, body := Body.bytes (uA 102 v port) }
def pj82 : AObj := { t := 296, sz := 14, exact := false, fz := false, body := Body.rows [[vi8 192, vi8 168, vi8 1, vi8 102, vb true, vi8 2, vi8 1, vi8 0, vi8 0, vi8 0, vi8 2, vi64 1, vi64 0, v0]] }
def pj83 : AObj := { t := 298, sz := 3, exact := true, fz := false, body := Body.rows [[vi64 600, vi64 1, AV.sl 127260 0 1 none]] }
def pj84 (v port : Int) : AObj := { t := 5, sz := 1, exact := false, fz := false, body := Body.bytes ((2 : UInt8) :: (1 : UInt8) :: (0 : UInt8) :: (0 : UInt8) :: (0 : UInt8) :: (2 : UInt8) :: (2 : UInt8) :: (0 : UInt8) :: (0 : UInt8) :: (0 : UInt8) :: (0 : UInt8) :: (1 : UInt8) :: (8 : UInt8) :: (0 : UInt8) :: k32 (k32 (iD 59 102 v (uD 102 v port)))) }
def pj85 : AObj := { t := 5, sz := 1, exact := false, fz := false, body := Body.bytes [255, 255, 255, 255, 255, 255, 2, 0, 0, 0, 0, 1, 8, 6, 0, 1, 8, 0, 6, 4, 0, 1, 2, 0, 0, 0, 0, 1, 192, 168, 1, 1, 0, 0, 0, 0, 0, 0, 192, 168, 1, (102 : UInt8)] }
def pj86 : AObj := { t := 86, sz := 2, exact := false, fz := false, body := Body.rows [[vi64 0, AV.sl 127433 0 42 none], [vi64 0, AV.sl 129311 0 (14 + 32) none]] }
def pj87 : AObj := { t := 218, sz := 14, exact := true, fz := false, body := Body.rows [[vi8 2, vi8 0, vi8 0, vi8 0, vi8 0, vi8 2, vi8 2, vi8 2, vi8 0, vi8 0, vi8 0, vi8 1, vi64 2048, AV.sl 125420 0 32 none]] }
def pj88 (v port : Int) : AObj := { t := 5, sz := 1, exact := false, fz := false, body := Body.bytes (k32 (iD 59 102 v (uD 102 v port))) }
def pj89 : AObj := { t := 28, sz := 1, exact := true, fz := false, body := Body.rows [[AV.sl 127206 0 (0 + 32) none]] }
def pj90 : AObj := { t := 296, sz := 14, exact := false, fz := false, body := Body.rows [[vi8 192, vi8 168, vi8 1, vi8 102, vb false, vi8 0, vi8 0, vi8 0, vi8 0, vi8 0, vi8 0, vi64 1, vi64 1, AV.sl 127230 0 1 none]] }
def pj91 : AObj := { t := 5, sz := 1, exact := false, fz := false, body := Body.bytes [0, 1, 8, 0, 6, 4, 0, 2, 2, 1, 0, 0, 0, 2, 192, 168, 1, 102, 2, 0, 0, 0, 0, 1, 192, 168, 1, (1 : UInt8)] }
def pj92 : AObj := { t := 218, sz := 14, exact := true, fz := false, body := Body.rows [[vi8 2, vi8 0, vi8 0, vi8 0, vi8 0, vi8 1, vi8 2, vi8 1, vi8 0, vi8 0, vi8 0, vi8 2, vi64 2054, AV.sl 127938 0 28 none]] }
def pj93 : AObj := { t := 296, sz := 14, exact := false, fz := false, body := Body.rows [[vi8 192, vi8 168, vi8 1, vi8 102, vb true, vi8 2, vi8 1, vi8 0, vi8 0, vi8 0, vi8 2, vi64 1, vi64 0, v0], [vi8 192, vi8 168, vi8 1, vi8 100, vb true, vi8 2, vi8 1, vi8 0, vi8 0, vi8 0, vi8 0, vi64 1, vi64 0, v0]] }
def pj94 : AObj := { t := 298, sz := 3, exact := true, fz := false, body := Body.rows [[vi64 600, vi64 1, AV.sl 131846 0 2 none]] }
def pj95 : AObj := { t := 86, sz := 2, exact := false, fz := false, body := Body.rows [[vi64 0, AV.sl 132019 0 42 none], [vi64 0, AV.sl 133915 0 (14 + 32) none]] }
def pj96 : AObj := { t := 218, sz := 14, exact := true, fz := false, body := Body.rows [[vi8 2, vi8 0, vi8 0, vi8 0, vi8 0, vi8 2, vi8 2, vi8 2, vi8 0, vi8 0, vi8 0, vi8 1, vi64 2048, AV.sl 130082 0 32 none]] }
def pj97 : AObj := { t := 28, sz := 1, exact := true, fz := false, body := Body.rows [[AV.sl 131774 0 (0 + 32) none]] }
def pj98 : AObj := { t := 296, sz := 14, exact := false, fz := false, body := Body.rows [[vi8 192, vi8 168, vi8 1, vi8 102, vb true, vi8 2, vi8 1, vi8 0, vi8 0, vi8 0, vi8 2, vi64 1, vi64 0, v0], [vi8 192, vi8 168, vi8 1, vi8 100, vb false, vi8 0, vi8 0, vi8 0, vi8 0, vi8 0, vi8 0, vi64 1, vi64 1, AV.sl 131816 0 1 none]] }
def pj99 : AObj := { t := 218, sz := 14, exact := true, fz := false, body := Body.rows [[vi8 2, vi8 0, vi8 0, vi8 0, vi8 0, vi8 1, vi8 2, vi8 1, vi8 0, vi8 0, vi8 0, vi8 0, vi64 2054, AV.sl 132524 0 28 none]] }
def pj100 : AObj := { t := 298, sz := 3, exact := true, fz := false, body := Body.rows [[vi64 600, vi64 1, AV.sl 119513 0 1 none]] }
def pj101 (port o1 : Int) : AObj := { t := 174, sz := 9, exact := false, fz := false, body := Body.rows [[vi64 17, vi64 o1, vi8 192, vi8 168, vi8 1, vi8 101, vi64 port, vi64 1, vi64 121]] }
def pj102 : AObj := { t := 331, sz := 4, exact := true, fz := false, body := Body.rows [[vi64 40000, vi64 128, vi64 1, AV.sl 119143 0 1 none]] }
def pj103 (v : Int) : AObj := { t := 60, sz := 146, exact := true, fz := false, body := Body.rows [[vi8 192, vi8 168, vi8 1, vi8 1, vi8 192, vi8 168, vi8 1, vi8 0, vi64 24, vi8 2, vi8 0, vi8 0, vi8 0, vi8 0, vi8 1, vi8 2, vi8 0, vi8 0, vi8 0, vi8 0, vi8 2, vi8 192, vi8 168, vi8 1, vi8 100, vi8 192, vi8 168, vi8 1, vi8 131, vi64 3600, vi8 9, vi8 9, vi8 9, vi8 9, vi64 120, vi64 7200, vi64 30, vi64 40000, v0, v0, vi8 192, vi8 168, vi8 1, vi8 100, vi8 192, vi8 168, vi8 1, vi8 101, vi8 192, vi8 168, vi8 1, vi8 102, vi8 0, vi8 0, vi8 0, vi8 0, vi8 0, vi8 0, vi8 0, vi8 0, vi8 0, vi8 0, vi8 0, vi8 0, vi8 0, vi8 0, vi8 0, vi8 0, vi8 0, vi8 0, vi8 0, vi8 0, vi8 203, vi8 0, vi8 113, vi8 1, vb true, vi64 0, vi64 0, vi64 0, vi64 0, vi64 63, vi64 17, vi8 203, vi8 0, vi8 113, vi8 1, vi8 8, vi8 8, vi8 4, vi8 (w8 v), AV.sl 121535 0 0 none, AV.sl 121536 0 12 none, vb true, vi64 0, vi64 0, vi64 0, vi64 0, vi64 0, vi64 0, vi8 0, vi8 0, vi8 0, vi8 0, vi8 0, vi8 0, vi8 0, vi8 0, v0, v0, vi64 0, vi64 0, v0, v0, v0, v0, v0, vi64 1, vi64 0, vi32 5, vi64 0, vi64 32768, vi8 0, vi8 0, vi8 0, vi8 0, vi8 0, vi8 0, vi8 0, vi8 0, vi8 0, vi8 0, vi8 0, vi8 0, vi8 0, vi8 0, vi8 0, vi8 0, vi8 2, vi8 0, vi8 0, vi8 0, vi8 0, vi8 2, AV.sl 21130 0 4 none, vb false]] }
def pj104 : AObj := { t := 86, sz := 2, exact := false, fz := false, body := Body.rows [[vi64 1, AV.sl 119717 0 42 none], [vi64 1, AV.sl 121354 0 (14 + 32) none]] }
def pj105 : AObj := { t := 218, sz := 14, exact := true, fz := false, body := Body.rows [[vi8 2, vi8 0, vi8 0, vi8 0, vi8 0, vi8 1, vi8 2, vi8 1, vi8 0, vi8 0, vi8 0, vi8 1, vi64 2048, AV.sl 117326 0 32 none]] }
def pj106 : AObj := { t := 28, sz := 1, exact := true, fz := false, body := Body.rows [[AV.sl 119459 0 (0 + 32) none]] }
def pj107 : AObj := { t := 296, sz := 14, exact := false, fz := false, body := Body.rows [[vi8 203, vi8 0, vi8 113, vi8 254, vb false, vi8 0, vi8 0, vi8 0, vi8 0, vi8 0, vi8 0, vi64 1, vi64 1, AV.sl 119483 0 1 none]] }
def pj108 : AObj := { t := 218, sz := 14, exact := true, fz := false, body := Body.rows [[vi8 2, vi8 0, vi8 0, vi8 0, vi8 0, vi8 2, vi8 2, vi8 2, vi8 0, vi8 0, vi8 0, vi8 1, vi64 2054, AV.sl 120081 0 28 none]] }
def pj109 (port o1 o2 : Int) : AObj := { t := 174, sz := 9, exact := false, fz := false, body := Body.rows [[vi64 17, vi64 o1, vi8 192, vi8 168, vi8 1, vi8 101, vi64 port, vi64 1, vi64 121], [vi64 17, vi64 o2, vi8 192, vi8 168, vi8 1, vi8 100, vi64 port, vi64 1, vi64 121]] }
def pj110 : AObj := { t := 218, sz := 14, exact := true, fz := false, body := Body.rows [[vi8 2, vi8 0, vi8 0, vi8 0, vi8 0, vi8 1, vi8 2, vi8 1, vi8 0, vi8 0, vi8 0, vi8 0, vi64 2048, AV.sl 122095 0 32 none]] }
def pj111 : AObj := { t := 296, sz := 14, exact := false, fz := false, body := Body.rows [[vi8 192, vi8 168, vi8 1, vi8 100, vb true, vi8 2, vi8 1, vi8 0, vi8 0, vi8 0, vi8 0, vi64 1, vi64 0, v0]] }
def pj112 : AObj := { t := 298, sz := 3, exact := true, fz := false, body := Body.rows [[vi64 600, vi64 1, AV.sl 127206 0 1 none]] }
def pj113 : AObj := { t := 86, sz := 2, exact := false, fz := false, body := Body.rows [[vi64 0, AV.sl 127379 0 42 none], [vi64 0, AV.sl 129257 0 (14 + 32) none]] }
def pj114 : AObj := { t := 28, sz := 1, exact := true, fz := false, body := Body.rows [[AV.sl 127152 0 (0 + 32) none]] }
def pj115 : AObj := { t := 296, sz := 14, exact := false, fz := false, body := Body.rows [[vi8 192, vi8 168, vi8 1, vi8 100, vb false, vi8 0, vi8 0, vi8 0, vi8 0, vi8 0, vi8 0, vi64 1, vi64 1, AV.sl 127176 0 1 none]] }
def pj116 : AObj := { t := 218, sz := 14, exact := true, fz := false, body := Body.rows [[vi8 2, vi8 0, vi8 0, vi8 0, vi8 0, vi8 1, vi8 2, vi8 1, vi8 0, vi8 0, vi8 0, vi8 0, vi64 2054, AV.sl 127884 0 28 none]] }
def pj117 : AObj := { t := 296, sz := 14, exact := false, fz := false, body := Body.rows [[vi8 192, vi8 168, vi8 1, vi8 100, vb true, vi8 2, vi8 1, vi8 0, vi8 0, vi8 0, vi8 0, vi64 1, vi64 0, v0], [vi8 192, vi8 168, vi8 1, vi8 101, vb true, vi8 2, vi8 1, vi8 0, vi8 0, vi8 0, vi8 1, vi64 1, vi64 0, v0]] }
def pj118 : AObj := { t := 218, sz := 14, exact := true, fz := false, body := Body.rows [[vi8 2, vi8 0, vi8 0, vi8 0, vi8 0, vi8 2, vi8 2, vi8 2, vi8 0, vi8 0, vi8 0, vi8 1, vi64 2048, AV.sl 130028 0 32 none]] }
def pj119 : AObj := { t := 296, sz := 14, exact := false, fz := false, body := Body.rows [[vi8 192, vi8 168, vi8 1, vi8 100, vb true, vi8 2, vi8 1, vi8 0, vi8 0, vi8 0, vi8 0, vi64 1, vi64 0, v0], [vi8 192, vi8 168, vi8 1, vi8 101, vb false, vi8 0, vi8 0, vi8 0, vi8 0, vi8 0, vi8 0, vi64 1, vi64 1, AV.sl 131780 0 1 none]] }
def pj120 : AObj := { t := 218, sz := 14, exact := true, fz := false, body := Body.rows [[vi8 2, vi8 0, vi8 0, vi8 0, vi8 0, vi8 1, vi8 2, vi8 1, vi8 0, vi8 0, vi8 0, vi8 1, vi64 2054, AV.sl 132488 0 28 none]] }
def pj121 (port o1 o2 : Int) : AObj := { t := 174, sz := 9, exact := false, fz := false, body := Body.rows [[vi64 17, vi64 o1, vi8 192, vi8 168, vi8 1, vi8 101, vi64 port, vi64 1, vi64 121], [vi64 17, vi64 o2, vi8 192, vi8 168, vi8 1, vi8 102, vi64 port, vi64 1, vi64 121]] }
def pj122 : AObj := { t := 331, sz := 4, exact := true, fz := false, body := Body.rows [[vi64 40000, vi64 128, vi64 1, AV.sl 124215 0 2 none]] }
def pj123 (v : Int) : AObj := { t := 60, sz := 146, exact := true, fz := false, body := Body.rows [[vi8 192, vi8 168, vi8 1, vi8 1, vi8 192, vi8 168, vi8 1, vi8 0, vi64 24, vi8 2, vi8 0, vi8 0, vi8 0, vi8 0, vi8 1, vi8 2, vi8 0, vi8 0, vi8 0, vi8 0, vi8 2, vi8 192, vi8 168, vi8 1, vi8 100, vi8 192, vi8 168, vi8 1, vi8 131, vi64 3600, vi8 9, vi8 9, vi8 9, vi8 9, vi64 120, vi64 7200, vi64 30, vi64 40000, v0, v0, vi8 192, vi8 168, vi8 1, vi8 100, vi8 192, vi8 168, vi8 1, vi8 101, vi8 192, vi8 168, vi8 1, vi8 102, vi8 0, vi8 0, vi8 0, vi8 0, vi8 0, vi8 0, vi8 0, vi8 0, vi8 0, vi8 0, vi8 0, vi8 0, vi8 0, vi8 0, vi8 0, vi8 0, vi8 0, vi8 0, vi8 0, vi8 0, vi8 203, vi8 0, vi8 113, vi8 1, vb true, vi64 0, vi64 0, vi64 0, vi64 0, vi64 63, vi64 17, vi8 203, vi8 0, vi8 113, vi8 1, vi8 8, vi8 8, vi8 4, vi8 (w8 v), AV.sl 124862 0 0 none, AV.sl 124863 0 12 none, vb true, vi64 0, vi64 0, vi64 0, vi64 0, vi64 0, vi64 0, vi8 0, vi8 0, vi8 0, vi8 0, vi8 0, vi8 0, vi8 0, vi8 0, v0, v0, vi64 0, vi64 0, v0, v0, v0, v0, v0, vi64 1, vi64 0, vi32 5, vi64 0, vi64 32768, vi8 0, vi8 0, vi8 0, vi8 0, vi8 0, vi8 0, vi8 0, vi8 0, vi8 0, vi8 0, vi8 0, vi8 0, vi8 0, vi8 0, vi8 0, vi8 0, vi8 2, vi8 0, vi8 0, vi8 0, vi8 0, vi8 2, AV.sl 21130 0 4 none, vb false]] }
def pj124 : AObj := { t := 86, sz := 2, exact := false, fz := false, body := Body.rows [[vi64 1, AV.sl 124685 0 (14 + 32) none]] }
def pj125 : AObj := { t := 218, sz := 14, exact := true, fz := false, body := Body.rows [[vi8 2, vi8 0, vi8 0, vi8 0, vi8 0, vi8 1, vi8 2, vi8 1, vi8 0, vi8 0, vi8 0, vi8 2, vi64 2048, AV.sl 122095 0 32 none]] }
def pj126 : AObj := { t := 298, sz := 3, exact := true, fz := false, body := Body.rows [[vi64 600, vi64 1, AV.sl 127278 0 1 none]] }
def pj127 : AObj := { t := 86, sz := 2, exact := false, fz := false, body := Body.rows [[vi64 0, AV.sl 127451 0 42 none], [vi64 0, AV.sl 129329 0 (14 + 32) none]] }
def pj128 : AObj := { t := 218, sz := 14, exact := true, fz := false, body := Body.rows [[vi8 2, vi8 0, vi8 0, vi8 0, vi8 0, vi8 2, vi8 2, vi8 2, vi8 0, vi8 0, vi8 0, vi8 1, vi64 2048, AV.sl 125438 0 32 none]] }
def pj129 : AObj := { t := 28, sz := 1, exact := true, fz := false, body := Body.rows [[AV.sl 127224 0 (0 + 32) none]] }
def pj130 : AObj := { t := 296, sz := 14, exact := false, fz := false, body := Body.rows [[vi8 192, vi8 168, vi8 1, vi8 102, vb false, vi8 0, vi8 0, vi8 0, vi8 0, vi8 0, vi8 0, vi64 1, vi64 1, AV.sl 127248 0 1 none]] }
def pj131 : AObj := { t := 218, sz := 14, exact := true, fz := false, body := Body.rows [[vi8 2, vi8 0, vi8 0, vi8 0, vi8 0, vi8 1, vi8 2, vi8 1, vi8 0, vi8 0, vi8 0, vi8 2, vi64 2054, AV.sl 127956 0 28 none]] }
def pj132 : AObj := { t := 296, sz := 14, exact := false, fz := false, body := Body.rows [[vi8 192, vi8 168, vi8 1, vi8 102, vb true, vi8 2, vi8 1, vi8 0, vi8 0, vi8 0, vi8 2, vi64 1, vi64 0, v0], [vi8 192, vi8 168, vi8 1, vi8 101, vb true, vi8 2, vi8 1, vi8 0, vi8 0, vi8 0, vi8 1, vi64 1, vi64 0, v0]] }
def pj133 : AObj := { t := 298, sz := 3, exact := true, fz := false, body := Body.rows [[vi64 600, vi64 1, AV.sl 131882 0 2 none]] }
def pj134 : AObj := { t := 86, sz := 2, exact := false, fz := false, body := Body.rows [[vi64 0, AV.sl 132055 0 42 none], [vi64 0, AV.sl 133951 0 (14 + 32) none]] }
def pj135 : AObj := { t := 218, sz := 14, exact := true, fz := false, body := Body.rows [[vi8 2, vi8 0, vi8 0, vi8 0, vi8 0, vi8 2, vi8 2, vi8 2, vi8 0, vi8 0, vi8 0, vi8 1, vi64 2048, AV.sl 130100 0 32 none]] }
def pj136 : AObj := { t := 28, sz := 1, exact := true, fz := false, body := Body.rows [[AV.sl 131810 0 (0 + 32) none]] }
def pj137 : AObj := { t := 296, sz := 14, exact := false, fz := false, body := Body.rows [[vi8 192, vi8 168, vi8 1, vi8 102, vb true, vi8 2, vi8 1, vi8 0, vi8 0, vi8 0, vi8 2, vi64 1, vi64 0, v0], [vi8 192, vi8 168, vi8 1, vi8 101, vb false, vi8 0, vi8 0, vi8 0, vi8 0, vi8 0, vi8 0, vi64 1, vi64 1, AV.sl 131852 0 1 none]] }
def pj138 : AObj := { t := 218, sz := 14, exact := true, fz := false, body := Body.rows [[vi8 2, vi8 0, vi8 0, vi8 0, vi8 0, vi8 1, vi8 2, vi8 1, vi8 0, vi8 0, vi8 0, vi8 1, vi64 2054, AV.sl 132560 0 28 none]] }
def pj139 : AObj := { t := 298, sz := 3, exact := true, fz := false, body := Body.rows [[vi64 600, vi64 1, AV.sl 119531 0 1 none]] }
def pj140 (port o1 : Int) : AObj := { t := 174, sz := 9, exact := false, fz := false, body := Body.rows [[vi64 17, vi64 o1, vi8 192, vi8 168, vi8 1, vi8 102, vi64 port, vi64 1, vi64 121]] }
def pj141 : AObj := { t := 331, sz := 4, exact := true, fz := false, body := Body.rows [[vi64 40000, vi64 128, vi64 1, AV.sl 119161 0 1 none]] }
def pj142 (v : Int) : AObj := { t := 60, sz := 146, exact := true, fz := false, body := Body.rows [[vi8 192, vi8 168, vi8 1, vi8 1, vi8 192, vi8 168, vi8 1, vi8 0, vi64 24, vi8 2, vi8 0, vi8 0, vi8 0, vi8 0, vi8 1, vi8 2, vi8 0, vi8 0, vi8 0, vi8 0, vi8 2, vi8 192, vi8 168, vi8 1, vi8 100, vi8 192, vi8 168, vi8 1, vi8 131, vi64 3600, vi8 9, vi8 9, vi8 9, vi8 9, vi64 120, vi64 7200, vi64 30, vi64 40000, v0, v0, vi8 192, vi8 168, vi8 1, vi8 100, vi8 192, vi8 168, vi8 1, vi8 101, vi8 192, vi8 168, vi8 1, vi8 102, vi8 0, vi8 0, vi8 0, vi8 0, vi8 0, vi8 0, vi8 0, vi8 0, vi8 0, vi8 0, vi8 0, vi8 0, vi8 0, vi8 0, vi8 0, vi8 0, vi8 0, vi8 0, vi8 0, vi8 0, vi8 203, vi8 0, vi8 113, vi8 1, vb true, vi64 0, vi64 0, vi64 0, vi64 0, vi64 63, vi64 17, vi8 203, vi8 0, vi8 113, vi8 1, vi8 8, vi8 8, vi8 4, vi8 (w8 v), AV.sl 121553 0 0 none, AV.sl 121554 0 12 none, vb true, vi64 0, vi64 0, vi64 0, vi64 0, vi64 0, vi64 0, vi8 0, vi8 0, vi8 0, vi8 0, vi8 0, vi8 0, vi8 0, vi8 0, v0, v0, vi64 0, vi64 0, v0, v0, v0, v0, v0, vi64 1, vi64 0, vi32 5, vi64 0, vi64 32768, vi8 0, vi8 0, vi8 0, vi8 0, vi8 0, vi8 0, vi8 0, vi8 0, vi8 0, vi8 0, vi8 0, vi8 0, vi8 0, vi8 0, vi8 0, vi8 0, vi8 2, vi8 0, vi8 0, vi8 0, vi8 0, vi8 2, AV.sl 21130 0 4 none, vb false]] }
def pj143 : AObj := { t := 86, sz := 2, exact := false, fz := false, body := Body.rows [[vi64 1, AV.sl 119735 0 42 none], [vi64 1, AV.sl 121372 0 (14 + 32) none]] }
def pj144 : AObj := { t := 218, sz := 14, exact := true, fz := false, body := Body.rows [[vi8 2, vi8 0, vi8 0, vi8 0, vi8 0, vi8 1, vi8 2, vi8 1, vi8 0, vi8 0, vi8 0, vi8 2, vi64 2048, AV.sl 117326 0 32 none]] }
def pj145 : AObj := { t := 28, sz := 1, exact := true, fz := false, body := Body.rows [[AV.sl 119477 0 (0 + 32) none]] }
def pj146 : AObj := { t := 296, sz := 14, exact := false, fz := false, body := Body.rows [[vi8 203, vi8 0, vi8 113, vi8 254, vb false, vi8 0, vi8 0, vi8 0, vi8 0, vi8 0, vi8 0, vi64 1, vi64 1, AV.sl 119501 0 1 none]] }
def pj147 : AObj := { t := 218, sz := 14, exact := true, fz := false, body := Body.rows [[vi8 2, vi8 0, vi8 0, vi8 0, vi8 0, vi8 2, vi8 2, vi8 2, vi8 0, vi8 0, vi8 0, vi8 1, vi64 2054, AV.sl 120099 0 28 none]] }
def pj148 (port o1 o2 : Int) : AObj := { t := 174, sz := 9, exact := false, fz := false, body := Body.rows [[vi64 17, vi64 o1, vi8 192, vi8 168, vi8 1, vi8 102, vi64 port, vi64 1, vi64 121], [vi64 17, vi64 o2, vi8 192, vi8 168, vi8 1, vi8 100, vi64 port, vi64 1, vi64 121]] }
def pj149 : AObj := { t := 218, sz := 14, exact := true, fz := false, body := Body.rows [[vi8 2, vi8 0, vi8 0, vi8 0, vi8 0, vi8 1, vi8 2, vi8 1, vi8 0, vi8 0, vi8 0, vi8 0, vi64 2048, AV.sl 122113 0 32 none]] }
def pj150 : AObj := { t := 296, sz := 14, exact := false, fz := false, body := Body.rows [[vi8 192, vi8 168, vi8 1, vi8 100, vb false, vi8 0, vi8 0, vi8 0, vi8 0, vi8 0, vi8 0, vi64 1, vi64 1, AV.sl 127194 0 1 none]] }
def pj151 : AObj := { t := 218, sz := 14, exact := true, fz := false, body := Body.rows [[vi8 2, vi8 0, vi8 0, vi8 0, vi8 0, vi8 1, vi8 2, vi8 1, vi8 0, vi8 0, vi8 0, vi8 0, vi64 2054, AV.sl 127902 0 28 none]] }
def pj152 : AObj := { t := 296, sz := 14, exact := false, fz := false, body := Body.rows [[vi8 192, vi8 168, vi8 1, vi8 100, vb true, vi8 2, vi8 1, vi8 0, vi8 0, vi8 0, vi8 0, vi64 1, vi64 0, v0], [vi8 192, vi8 168, vi8 1, vi8 102, vb true, vi8 2, vi8 1, vi8 0, vi8 0, vi8 0, vi8 2, vi64 1, vi64 0, v0]] }
def pj153 : AObj := { t := 296, sz := 14, exact := false, fz := false, body := Body.rows [[vi8 192, vi8 168, vi8 1, vi8 100, vb true, vi8 2, vi8 1, vi8 0, vi8 0, vi8 0, vi8 0, vi64 1, vi64 0, v0], [vi8 192, vi8 168, vi8 1, vi8 102, vb false, vi8 0, vi8 0, vi8 0, vi8 0, vi8 0, vi8 0, vi64 1, vi64 1, AV.sl 131816 0 1 none]] }
def pj154 : AObj := { t := 218, sz := 14, exact := true, fz := false, body := Body.rows [[vi8 2, vi8 0, vi8 0, vi8 0, vi8 0, vi8 1, vi8 2, vi8 1, vi8 0, vi8 0, vi8 0, vi8 2, vi64 2054, AV.sl 132524 0 28 none]] }
def pj155 (port o1 o2 : Int) : AObj := { t := 174, sz := 9, exact := false, fz := false, body := Body.rows [[vi64 17, vi64 o1, vi8 192, vi8 168, vi8 1, vi8 102, vi64 port, vi64 1, vi64 121], [vi64 17, vi64 o2, vi8 192, vi8 168, vi8 1, vi8 101, vi64 port, vi64 1, vi64 121]] }
def pj156 : AObj := { t := 218, sz := 14, exact := true, fz := false, body := Body.rows [[vi8 2, vi8 0, vi8 0, vi8 0, vi8 0, vi8 1, vi8 2, vi8 1, vi8 0, vi8 0, vi8 0, vi8 1, vi64 2048, AV.sl 122113 0 32 none]] }
def pj157 : AObj := { t := 296, sz := 14, exact := false, fz := false, body := Body.rows [[vi8 192, vi8 168, vi8 1, vi8 101, vb false, vi8 0, vi8 0, vi8 0, vi8 0, vi8 0, vi8 0, vi64 1, vi64 1, AV.sl 127230 0 1 none]] }
def pj158 : AObj := { t := 218, sz := 14, exact := true, fz := false, body := Body.rows [[vi8 2, vi8 0, vi8 0, vi8 0, vi8 0, vi8 1, vi8 2, vi8 1, vi8 0, vi8 0, vi8 0, vi8 1, vi64 2054, AV.sl 127938 0 28 none]] }
def pj159 : AObj := { t := 296, sz := 14, exact := false, fz := false, body := Body.rows [[vi8 192, vi8 168, vi8 1, vi8 101, vb true, vi8 2, vi8 1, vi8 0, vi8 0, vi8 0, vi8 1, vi64 1, vi64 0, v0], [vi8 192, vi8 168, vi8 1, vi8 102, vb true, vi8 2, vi8 1, vi8 0, vi8 0, vi8 0, vi8 2, vi64 1, vi64 0, v0]] }
def pj160 : AObj := { t := 296, sz := 14, exact := false, fz := false, body := Body.rows [[vi8 192, vi8 168, vi8 1, vi8 101, vb true, vi8 2, vi8 1, vi8 0, vi8 0, vi8 0, vi8 1, vi64 1, vi64 0, v0], [vi8 192, vi8 168, vi8 1, vi8 102, vb false, vi8 0, vi8 0, vi8 0, vi8 0, vi8 0, vi8 0, vi64 1, vi64 1, AV.sl 131852 0 1 none]] }
def pj161 : AObj := { t := 218, sz := 14, exact := true, fz := false, body := Body.rows [[vi8 2, vi8 0, vi8 0, vi8 0, vi8 0, vi8 1, vi8 2, vi8 1, vi8 0, vi8 0, vi8 0, vi8 2, vi64 2054, AV.sl 132560 0 28 none]] }
end Go.Proofs.YtfofhpkafhpicaaGreatDoor

/- The law TopPorts at numbers out of range. -/
namespace Go.Proofs.YtfofhpkafhpicaaGreatDoor
open Go.RowKit
set_option linter.unusedVariables false
set_option linter.unusedSimpArgs false

set_option maxRecDepth 100000 in
theorem topPorts_x (a : Int) (b : Int) (port : Int) (v : Int) : outT kAct0 [(4, { op := [(3, 5, .mrg), (3, 9, .mrg), (3, 13, .mrg), (3, 18, .mrg), (3, 22, .mrg), (3, 26, .mrg)], br := [(51, true)], sp := [(3, 3), (3, 4), (3, 7), (3, 8), (3, 11), (3, 12), (3, 15), (3, 16), (3, 17), (3, 20), (3, 21), (3, 24), (3, 25)] })] Tryz.prog 4 [AV.val (Value.int IntKind.i64 a), AV.val (Value.int IntKind.i64 b), AV.val (Value.int IntKind.i64 port), AV.val (Value.int IntKind.i64 v)] [] 0 =
   some (AV.val (Value.bool true), [], 4320,
   ((!decide (a < (0 : Int))) = true → (!decide (a < (0 : Int))) = true) ::
   (decide (a < (0 : Int)) = false → (!decide (a < (0 : Int))) = true) ::
   ((!bif decide (a < (0 : Int)) then true else decide (a > (2 : Int))) = true → (!bif decide (a < (0 : Int)) then true else decide (a > (2 : Int))) = true) ::
   ((bif decide (a < (0 : Int)) then true else decide (a > (2 : Int))) = false → (!bif decide (a < (0 : Int)) then true else decide (a > (2 : Int))) = true) ::
   ((!bif bif decide (a < (0 : Int)) then true else decide (a > (2 : Int)) then true else decide (b < (0 : Int))) = true → (!bif bif decide (a < (0 : Int)) then true else decide (a > (2 : Int)) then true else decide (b < (0 : Int))) = true) ::
   ((bif bif decide (a < (0 : Int)) then true else decide (a > (2 : Int)) then true else decide (b < (0 : Int))) = false → (!bif bif decide (a < (0 : Int)) then true else decide (a > (2 : Int)) then true else decide (b < (0 : Int))) = true) ::
   rp 2 ((!bif bif bif decide (a < (0 : Int)) then true else decide (a > (2 : Int)) then true else decide (b < (0 : Int)) then true else decide (b > (2 : Int))) = true → (!bif bif bif decide (a < (0 : Int)) then true else decide (a > (2 : Int)) then true else decide (b < (0 : Int)) then true else decide (b > (2 : Int))) = true) (
   ((bif bif bif decide (a < (0 : Int)) then true else decide (a > (2 : Int)) then true else decide (b < (0 : Int)) then true else decide (b > (2 : Int))) = false → (!bif bif bif decide (a < (0 : Int)) then true else decide (a > (2 : Int)) then true else decide (b < (0 : Int)) then true else decide (b > (2 : Int))) = true) ::
   ((!bif bif bif bif decide (a < (0 : Int)) then true else decide (a > (2 : Int)) then true else decide (b < (0 : Int)) then true else decide (b > (2 : Int)) then true else a == b) = true → (!bif bif bif bif decide (a < (0 : Int)) then true else decide (a > (2 : Int)) then true else decide (b < (0 : Int)) then true else decide (b > (2 : Int)) then true else a == b) = true) ::
   ((bif bif bif bif decide (a < (0 : Int)) then true else decide (a > (2 : Int)) then true else decide (b < (0 : Int)) then true else decide (b > (2 : Int)) then true else a == b) = false → (!bif bif bif bif decide (a < (0 : Int)) then true else decide (a > (2 : Int)) then true else decide (b < (0 : Int)) then true else decide (b > (2 : Int)) then true else a == b) = true) ::
   ((!bif bif bif bif bif decide (a < (0 : Int)) then true else decide (a > (2 : Int)) then true else decide (b < (0 : Int)) then true else decide (b > (2 : Int)) then true else a == b then true else decide (port < (1 : Int))) = true → (!bif bif bif bif bif decide (a < (0 : Int)) then true else decide (a > (2 : Int)) then true else decide (b < (0 : Int)) then true else decide (b > (2 : Int)) then true else a == b then true else decide (port < (1 : Int))) = true) ::
   ((bif bif bif bif bif decide (a < (0 : Int)) then true else decide (a > (2 : Int)) then true else decide (b < (0 : Int)) then true else decide (b > (2 : Int)) then true else a == b then true else decide (port < (1 : Int))) = false → (!bif bif bif bif bif decide (a < (0 : Int)) then true else decide (a > (2 : Int)) then true else decide (b < (0 : Int)) then true else decide (b > (2 : Int)) then true else a == b then true else decide (port < (1 : Int))) = true) ::
   ((bif bif bif bif bif bif decide (a < (0 : Int)) then true else decide (a > (2 : Int)) then true else decide (b < (0 : Int)) then true else decide (b > (2 : Int)) then true else a == b then true else decide (port < (1 : Int)) then true else decide (port > (65535 : Int))) = true) :: [])) := by kernel_rfl
end Go.Proofs.YtfofhpkafhpicaaGreatDoor

/- The law TopPorts at numbers out of range: it answers true. -/
namespace Go.Proofs.YtfofhpkafhpicaaGreatDoor
open Go.RowKit
set_option linter.unusedSimpArgs false
set_option linter.unusedVariables false

theorem ports_out (a b port v : Int) (h : ¬ (0 ≤ a ∧ a ≤ 2 ∧ 0 ≤ b ∧ b ≤ 2 ∧ a ≠ b ∧ 1 ≤ port ∧ port ≤ 65535)) :
    ∃ L' nx', ACall Tryz.prog 4 [.val (.int .i64 a), .val (.int .i64 b), .val (.int .i64 port), .val (.int .i64 v)] [] 0 (.val (.bool true)) L' nx' := by
  have hl : (bif bif bif bif bif bif decide (a < (0 : Int)) then true else decide (a > (2 : Int)) then true else decide (b < (0 : Int)) then true else decide (b > (2 : Int)) then true else a == b then true else decide (port < (1 : Int)) then true else decide (port > (65535 : Int))) = true := by
    by_cases h1 : a < 0
    · rw [decide_eq_true h1]; rfl
    rw [decide_eq_false h1]
    by_cases h2 : a > 2
    · rw [decide_eq_true h2]; rfl
    rw [decide_eq_false h2]
    by_cases h3 : b < 0
    · rw [decide_eq_true h3]; rfl
    rw [decide_eq_false h3]
    by_cases h4 : b > 2
    · rw [decide_eq_true h4]; rfl
    rw [decide_eq_false h4]
    by_cases h5 : a = b
    · rw [beq_iff_eq.2 h5]; rfl
    rw [beq_eq_false_iff_ne.2 h5]
    by_cases h6 : port < 1
    · rw [decide_eq_true h6]; rfl
    rw [decide_eq_false h6]
    exact decide_eq_true (by omega)
  refine ⟨_, _, (outT_ok kAct0_ok (topPorts_x a b port v) ?_).1⟩
  repeat' (first | exact allNil | refine allCons ?_ ?_ | (with_reducible refine allRp _ ?_ ?_))
  all_goals first | exact fun h => h | exact fun h => by rw [h]; rfl | exact hl
end Go.Proofs.YtfofhpkafhpicaaGreatDoor
