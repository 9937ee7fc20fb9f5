/- Several texts in one: Sp0, Zk, Zj. -/
import Derived.Test.YtfofhpkafhpicaaGreatDoorMez
import Derived.Test.YtfofhpkafhpicaaGreatDoorMzi
import Derived.Test.YtfofhpkafhpicaaGreatDoorMdk

/- What is told of the packets that a run meets, call by call. -/
namespace Go.Proofs.YtfofhpkafhpicaaGreatDoor
open Go.RowKit

/-- what a packet's bytes are (ip), what a datagram's are (ud); put: they are written; lr: a frame within with a datagram is learned; no: nothing is told -/
inductive Sp where
  | ip (ttl proto f0 f1 f2 f3 t0 t1 t2 t3 : Int) (body : List UInt8)
  | ud (fr tp : Int) (db : List UInt8)
  | put
  | lr (ttl f0 f1 f2 f3 t0 t1 t2 t3 fr tp : Int) (db : List UInt8)
  | no
def spOf (ns : List (Nat × Sp)) (nx : Nat) : Option Sp := (ns.find? fun p => Nat.beq p.1 nx).map (·.2)
end Go.Proofs.YtfofhpkafhpicaaGreatDoor

/- Packets and datagrams read and written, the document's and the program's: known to the engine at the calls that are told, wherever their bytes lie. -/
namespace Go.Proofs.YtfofhpkafhpicaaGreatDoor
open Go.RowKit
set_option linter.unusedSimpArgs false
set_option linter.unusedVariables false

def avLen : AV → Nat
  | .sl _ _ n _ => n
  | .csl _ _ _ n _ => n
  | .bytes xs => xs.length
  | _ => 0

/-- a packet is read; its time is made less -/
def kIp (ttl proto f0 f1 f2 f3 t0 t1 t2 t3 : Int) (body : List UInt8) : Inl := fun g xs L nx =>
  match xs with
  | [b] =>
    match bytesOf (hp L) b with
    | some (ys, p) =>
      if L.all (fun p => decide (p.1 < nx)) then
        if g = 192 ∨ g = 89 then
          some (.tup [pkA 0 0 0 0 ttl proto f0 f1 f2 f3 t0 t1 t2 t3 (.sl nx 0 0 none) (.sl (nx + 1) 0 (avLen b - 20) none), .val (.int .i64 0)], (nx, objApp 5 []) :: (nx + 1, objApp 5 body) :: L, nx + 2,
            [p, ys = ipP ttl proto f0 f1 f2 f3 t0 t1 t2 t3 body, avLen b = 20 + body.length, 0 ≤ ttl ∧ ttl ≤ 255, 0 ≤ proto ∧ proto ≤ 255, byteP [f0, f1, f2, f3, t0, t1, t2, t3], body.length ≤ 1480])
        else if g = 380 then
          some (.tup [.sl nx 0 (avLen b) none, .val (.int .i64 0)], (nx, objApp 5 (ipP (ttl - 1) proto f0 f1 f2 f3 t0 t1 t2 t3 body)) :: L, nx + 1,
            [p, ys = ipP ttl proto f0 f1 f2 f3 t0 t1 t2 t3 body, avLen b = 20 + body.length, 2 ≤ ttl ∧ ttl ≤ 255, 0 < proto ∧ proto ≤ 255, byteP [f0, f1, f2, f3, t0, t1, t2, t3], body.length ≤ 1480])
        else none
      else none
    | none => none
  | _ => none
theorem kIp_ok (ttl proto f0 f1 f2 f3 t0 t1 t2 t3 : Int) (body : List UInt8) : InlOk Tryz.prog (kIp ttl proto f0 f1 f2 f3 t0 t1 t2 t3 body) := by
  intro g xs L nx v L' nx' q h hq
  unfold kIp at h
  split at h
  · rename_i b
    split at h
    · rename_i ys p hb
      split at h
      · rename_i hlt
        split at h
        · rename_i hg
          simp only [Option.some.injEq, Prod.mk.injEq] at h
          obtain ⟨rfl, rfl, rfl, rfl⟩ := h
          have c : ∀ p ∈ _, p := hq
          simp only [List.forall_mem_cons, List.not_mem_nil, false_implies, implies_true, and_true] at c
          obtain ⟨c1, c2, c3, c4, c5, c6, c7⟩ := c
          have e : avLen b - 20 = body.length := by omega
          rw [e]
          refine ⟨?_, by omega⟩
          rcases hg with rfl | rfl
          · have hc := (ipGet_c ttl proto f0 f1 f2 f3 t0 t1 t2 t3 body ys c2 c4 c5 c6 c7).fresh' (L := L) (nx := nx) (by rfl) (by rfl) (FrsL.cons (Frs.bytes hb c1) FrsL.nil) hlt
            simpa [AV.ren, renL, renH, AObj.ren, objApp, plus, pkA, Nat.add_comm] using hc
          · have hc := (rGet_c ttl proto f0 f1 f2 f3 t0 t1 t2 t3 body ys c2 c4 c5 c6 c7).fresh' (L := L) (nx := nx) (by rfl) (by rfl) (FrsL.cons (Frs.bytes hb c1) FrsL.nil) hlt
            simpa [AV.ren, renL, renH, AObj.ren, objApp, plus, pkA, Nat.add_comm] using hc
        · split at h
          · rename_i hg
            subst hg
            simp only [Option.some.injEq, Prod.mk.injEq] at h
            obtain ⟨rfl, rfl, rfl, rfl⟩ := h
            have c : ∀ p ∈ _, p := hq
            simp only [List.forall_mem_cons, List.not_mem_nil, false_implies, implies_true, and_true] at c
            obtain ⟨c1, c2, c3, c4, c5, c6, c7⟩ := c
            rw [c3]
            refine ⟨?_, by omega⟩
            have hc := (ipHop_c ttl proto f0 f1 f2 f3 t0 t1 t2 t3 body ys c2 c4 c5 c6 c7).fresh' (L := L) (nx := nx) (by rfl) (by rfl) (FrsL.cons (Frs.bytes hb c1) FrsL.nil) hlt
            simpa [AV.ren, renL, renH, AObj.ren, objApp, plus, pkA, Nat.add_comm] using hc
          · cases h
      · cases h
    · cases h
  · cases h
theorem frsPk {H : Heap} {tos id flags part ttl proto f0 f1 f2 f3 t0 t1 t2 t3 : Int} {o b : AV} {os bs : List UInt8} {p1 p2 : Prop} (ho : bytesOf H o = some (os, p1)) (c1 : p1) (hb : bytesOf H b = some (bs, p2)) (c2 : p2) :
    Frs H (pkA tos id flags part ttl proto f0 f1 f2 f3 t0 t1 t2 t3 o b) (pkA tos id flags part ttl proto f0 f1 f2 f3 t0 t1 t2 t3 (.bytes os) (.bytes bs)) :=
  FrsL.agg (FrsL.cons (Frs.v _) (FrsL.cons (Frs.v _) (FrsL.cons (Frs.v _) (FrsL.cons (Frs.v _) (FrsL.cons (Frs.v _) (FrsL.cons (Frs.v _) (FrsL.cons (Frs.v _) (FrsL.cons (Frs.v _) (FrsL.cons (Frs.v _) (FrsL.cons (Frs.v _) (FrsL.cons (Frs.v _) (FrsL.cons (Frs.v _) (FrsL.cons (Frs.v _) (FrsL.cons (Frs.v _) (FrsL.cons (Frs.bytes ho c1) (FrsL.cons (Frs.bytes hb c2) FrsL.nil))))))))))))))))
/-- a datagram is read -/
def kUd (fr tp : Int) (db : List UInt8) : Inl := fun g xs L nx =>
  match xs with
  | [.agg [.val (.int .i64 tos), .val (.int .i64 id), .val (.int .i64 flags), .val (.int .i64 part), .val (.int .i64 ttl), .val (.int .i64 proto), .val (.int .u8 f0), .val (.int .u8 f1), .val (.int .u8 f2), .val (.int .u8 f3), .val (.int .u8 t0), .val (.int .u8 t1), .val (.int .u8 t2), .val (.int .u8 t3), o, b]] =>
    match bytesOf (hp L) o, bytesOf (hp L) b with
    | some (os, p1), some (ys, p2) =>
      if L.all (fun p => decide (p.1 < nx)) then
        if g = 293 ∨ g = 11 then
          some (.tup [.agg [.val (.int .i64 fr), .val (.int .i64 tp), .sl nx 0 (avLen b - 8) none], .val (.int .i64 0)], (nx, objApp 5 db) :: L, nx + 1,
            [p1, p2, os = [], tos = 0, id = 0, flags = 0, part = 0, proto = 17, ys = udpP f0 f1 f2 f3 t0 t1 t2 t3 fr tp db, avLen b = 8 + db.length, 0 ≤ fr ∧ fr ≤ 65535, 0 ≤ tp ∧ tp ≤ 65535, byteP [f0, f1, f2, f3, t0, t1, t2, t3], db.length ≤ 1472])
        else none
      else none
    | _, _ => none
  | _ => none
theorem kUd_ok (fr tp : Int) (db : List UInt8) : InlOk Tryz.prog (kUd fr tp db) := by
  intro g xs L nx v L' nx' q h hq
  unfold kUd at h
  split at h
  · rename_i tos id flags part ttl proto f0 f1 f2 f3 t0 t1 t2 t3 o b
    split at h
    · rename_i os p1 ys p2 ho hb
      split at h
      · rename_i hlt
        split at h
        · rename_i hg
          simp only [Option.some.injEq, Prod.mk.injEq] at h
          obtain ⟨rfl, rfl, rfl, rfl⟩ := h
          have c : ∀ p ∈ _, p := hq
          simp only [List.forall_mem_cons, List.not_mem_nil, false_implies, implies_true, and_true] at c
          obtain ⟨c1, c2, e1, e2, e3, e4, e5, e6, c6, c7, c8, c9, c10, c11⟩ := c
          have e : avLen b - 8 = db.length := by omega
          rw [e]
          subst e1 e2 e3 e4 e5 e6
          refine ⟨?_, by omega⟩
          rcases hg with rfl | rfl
          · have hc := (udpGet_p ttl f0 f1 f2 f3 t0 t1 t2 t3 fr tp ys db c6 c8 c9 c10 c11).fresh' (L := L) (nx := nx) (by rfl) (by rfl) (FrsL.cons (frsPk ho c1 hb c2) FrsL.nil) hlt
            simpa [AV.ren, renL, renH, AObj.ren, objApp, plus, pkA, Nat.add_comm] using hc
          · have hc := (rGetUdp_p ttl f0 f1 f2 f3 t0 t1 t2 t3 fr tp ys db c6 c8 c9 c10 c11).fresh' (L := L) (nx := nx) (by rfl) (by rfl) (FrsL.cons (frsPk ho c1 hb c2) FrsL.nil) hlt
            simpa [AV.ren, renL, renH, AObj.ren, objApp, plus, pkA, Nat.add_comm] using hc
        · cases h
      · cases h
    · cases h
  · cases h
/-- packets and datagrams are written -/
def kPut : Inl := fun g xs L nx =>
  match xs with
  | [.agg [.val (.int .i64 tos), .val (.int .i64 id), .val (.int .i64 flags), .val (.int .i64 part), .val (.int .i64 ttl), .val (.int .i64 proto), .val (.int .u8 f0), .val (.int .u8 f1), .val (.int .u8 f2), .val (.int .u8 f3), .val (.int .u8 t0), .val (.int .u8 t1), .val (.int .u8 t2), .val (.int .u8 t3), o, b]] =>
    match bytesOf (hp L) o, bytesOf (hp L) b with
    | some (os, p1), some (ys, p2) =>
      if L.all (fun p => decide (p.1 < nx)) then
        if g = 234 ∨ g = 78 then
          some (.tup [.sl nx 0 (20 + avLen b) none, .val (.int .i64 0)], (nx, objApp 5 (ipP ttl proto f0 f1 f2 f3 t0 t1 t2 t3 ys)) :: L, nx + 1,
            [p1, p2, os = [], tos = 0, id = 0, flags = 0, part = 0, avLen b = ys.length, 0 ≤ ttl ∧ ttl ≤ 255, 0 ≤ proto ∧ proto ≤ 255, byteP [f0, f1, f2, f3, t0, t1, t2, t3], ys.length ≤ 1480])
        else none
      else none
    | _, _ => none
  | [.agg [.val (.int .i64 tos), .val (.int .i64 id), .val (.int .i64 flags), .val (.int .i64 part), .val (.int .i64 ttl), .val (.int .i64 proto), .val (.int .u8 f0), .val (.int .u8 f1), .val (.int .u8 f2), .val (.int .u8 f3), .val (.int .u8 t0), .val (.int .u8 t1), .val (.int .u8 t2), .val (.int .u8 t3), o, b], .agg [.val (.int .i64 fr), .val (.int .i64 tp), d]] =>
    match bytesOf (hp L) o, bytesOf (hp L) b, bytesOf (hp L) d with
    | some (os, p1), some (ys, p2), some (db, p3) =>
      if L.all (fun p => decide (p.1 < nx)) then
        if g = 233 ∨ g = 171 then
          some (.tup [pkA 0 0 0 0 ttl 17 f0 f1 f2 f3 t0 t1 t2 t3 (.sl (nx + 1) 0 0 none) (.sl nx 0 (8 + avLen d) none), .val (.int .i64 0)], (nx, objApp 5 (udpP f0 f1 f2 f3 t0 t1 t2 t3 fr tp db)) :: (nx + 1, objApp 5 []) :: L, nx + 2,
            [p1, p2, p3, os = [], tos = 0, id = 0, flags = 0, part = 0, avLen d = db.length, byteP [f0, f1, f2, f3, t0, t1, t2, t3], 0 ≤ fr ∧ fr ≤ 65535, 0 ≤ tp ∧ tp ≤ 65535, db.length ≤ 1472])
        else none
      else none
    | _, _, _ => none
  | _ => none
theorem kPut_ok : InlOk Tryz.prog kPut := by
  intro g xs L nx v L' nx' q h hq
  unfold kPut at h
  split at h
  · rename_i tos id flags part ttl proto f0 f1 f2 f3 t0 t1 t2 t3 o b
    split at h
    · rename_i os p1 ys p2 ho hb
      split at h
      · rename_i hlt
        split at h
        · rename_i hg
          simp only [Option.some.injEq, Prod.mk.injEq] at h
          obtain ⟨rfl, rfl, rfl, rfl⟩ := h
          have c : ∀ p ∈ _, p := hq
          simp only [List.forall_mem_cons, List.not_mem_nil, false_implies, implies_true, and_true] at c
          obtain ⟨c1, c2, c3, c4, c5, c6, c7, c8, c9, c10, c11, c12⟩ := c
          rw [c8]
          subst c3 c4 c5 c6 c7
          refine ⟨?_, by omega⟩
          rcases hg with rfl | rfl
          · have hc := (ipPut_p ttl proto f0 f1 f2 f3 t0 t1 t2 t3 ys c9 c10 c11 c12).fresh' (L := L) (nx := nx) (by rfl) (by rfl) (FrsL.cons (frsPk ho c1 hb c2) FrsL.nil) hlt
            simpa [AV.ren, renL, renH, AObj.ren, objApp, plus, pkA, Nat.add_comm] using hc
          · have hc := (rPut_p ttl proto f0 f1 f2 f3 t0 t1 t2 t3 ys c9 c10 c11 c12).fresh' (L := L) (nx := nx) (by rfl) (by rfl) (FrsL.cons (frsPk ho c1 hb c2) FrsL.nil) hlt
            simpa [AV.ren, renL, renH, AObj.ren, objApp, plus, pkA, Nat.add_comm] using hc
        · cases h
      · cases h
    · cases h
  · rename_i tos id flags part ttl proto f0 f1 f2 f3 t0 t1 t2 t3 o b fr tp d
    split at h
    · rename_i os p1 ys p2 db p3 ho hb hd
      split at h
      · rename_i hlt
        split at h
        · rename_i hg
          simp only [Option.some.injEq, Prod.mk.injEq] at h
          obtain ⟨rfl, rfl, rfl, rfl⟩ := h
          have c : ∀ p ∈ _, p := hq
          simp only [List.forall_mem_cons, List.not_mem_nil, false_implies, implies_true, and_true] at c
          obtain ⟨c1, c2, c3, e1, e2, e3, e4, e5, c5, c6, c7, c8, c9⟩ := c
          rw [c5]
          subst e1 e2 e3 e4 e5
          refine ⟨?_, by omega⟩
          have fd : FrsL (hp L) [.agg [.val (.int .i64 fr), .val (.int .i64 tp), d]] [.agg [.val (.int .i64 fr), .val (.int .i64 tp), .bytes db]] := FrsL.cons (FrsL.agg (FrsL.cons (Frs.v _) (FrsL.cons (Frs.v _) (FrsL.cons (Frs.bytes hd c3) FrsL.nil)))) FrsL.nil
          rcases hg with rfl | rfl
          · have hc := (udpPut_c ttl proto f0 f1 f2 f3 t0 t1 t2 t3 fr tp ys db c6 c7 c8 c9).fresh' (L := L) (nx := nx) (by rfl) (by rfl) (FrsL.cons (frsPk ho c1 hb c2) fd) hlt
            simpa [AV.ren, renL, renH, AObj.ren, objApp, plus, pkA, Nat.add_comm] using hc
          · have hc := (rPutUdp_c ttl proto f0 f1 f2 f3 t0 t1 t2 t3 fr tp ys db c6 c7 c8 c9).fresh' (L := L) (nx := nx) (by rfl) (by rfl) (FrsL.cons (frsPk ho c1 hb c2) fd) hlt
            simpa [AV.ren, renL, renH, AObj.ren, objApp, plus, pkA, Nat.add_comm] using hc
        · cases h
      · cases h
    · cases h
  · cases h
def kPkt0 (ns : List (Nat × Sp)) : Inl := fun g xs L nx =>
  match spOf ns nx with
  | some (.ip ttl proto f0 f1 f2 f3 t0 t1 t2 t3 body) => kIp ttl proto f0 f1 f2 f3 t0 t1 t2 t3 body g xs L nx
  | some (.ud fr tp db) => kUd fr tp db g xs L nx
  | some .put => kPut g xs L nx
  | _ => none
theorem kPkt0_ok (ns : List (Nat × Sp)) : InlOk Tryz.prog (kPkt0 ns) := by
  intro g xs L nx v L' nx' q h hq
  unfold kPkt0 at h
  split at h
  · exact kIp_ok _ _ _ _ _ _ _ _ _ _ _ g xs L nx v L' nx' q h hq
  · exact kUd_ok _ _ _ g xs L nx v L' nx' q h hq
  · exact kPut_ok g xs L nx v L' nx' q h hq
  · cases h
end Go.Proofs.YtfofhpkafhpicaaGreatDoor

/- Packets as they are told, and what every act knows. -/
namespace Go.Proofs.YtfofhpkafhpicaaGreatDoor
open Go.RowKit
set_option linter.unusedVariables false
set_option linter.unusedSimpArgs false

def kPA (ns : List (Nat × Sp)) : Inl := orInl (kPkt0 ns) kAct0
theorem kPA_ok (ns : List (Nat × Sp)) : InlOk Tryz.prog (kPA ns) := orInl_ok (kPkt0_ok ns) kAct0_ok
end Go.Proofs.YtfofhpkafhpicaaGreatDoor
