/- Datagrams written and read: known to the engine. -/
import Derived.Test.YtecmagdefllihaaUg
import Derived.Test.YtecmagdefllihaaTmm
namespace Go.Proofs.Ytecmagdefllihaa
open Go.RowKit

def kUdp : Inl := fun g xs L nx =>
  if g = 30 then
    match xs with
    | [.agg [.val (.int .i64 tos), .val (.int .i64 id), .val (.int .i64 flags), .val (.int .i64 part), .val (.int .i64 ttl), .val (.int .i64 proto), .val (.int .u8 f0), .val (.int .u8 f1), .val (.int .u8 f2), .val (.int .u8 f3), .val (.int .u8 t0), .val (.int .u8 t1), .val (.int .u8 t2), .val (.int .u8 t3), o, b]] =>
      match bytesOf (hp L) o, bytesOf (hp L) b with
      | some (os, p1), some (ys, p2) =>
        if L.all (fun p => decide (p.1 < nx)) then
          some (.tup [.agg [.val (.int .i64 (at16 ys 0 : Nat)), .val (.int .i64 (at16 ys 2 : Nat)), .sl nx 0 (at16 ys 4 - 8) none], .val (.int .i64 0)], (nx, objApp 5 ((ys.drop 8).take (at16 ys 4 - 8))) :: L, nx + 1,
            [p1, p2, proto = 17, part = 0, bits BinOp.and IntKind.i64 flags (1 : Int) = 0, byteP [f0, f1, f2, f3, t0, t1, t2, t3], 8 ≤ at16 ys 4, at16 ys 4 ≤ ys.length, ys.length ≤ 100000, at16 ys 6 = 0 ∨ ofL (psd 17 f0 f1 f2 f3 t0 t1 t2 t3 (at16 ys 4 : Nat) (ys.take (at16 ys 4))) = 0])
        else none
      | _, _ => none
    | _ => none
  else if g = 31 then
    match xs with
    | [.agg [.val (.int .i64 tos), .val (.int .i64 id), .val (.int .i64 flags), .val (.int .i64 part), .val (.int .i64 ttl), .val (.int .i64 proto), .val (.int .u8 f0), .val (.int .u8 f1), .val (.int .u8 f2), .val (.int .u8 f3), .val (.int .u8 t0), .val (.int .u8 t1), .val (.int .u8 t2), .val (.int .u8 t3), o, b], .agg [.val (.int .i64 fr), .val (.int .i64 tp), d]] =>
      match bytesOf (hp L) o, bytesOf (hp L) b, bytesOf (hp L) d with
      | some (os, p1), some (ys, p2), some (db, p3) =>
        if L.all (fun p => decide (p.1 < nx)) then
          some (.tup [pkA tos id flags part ttl 17 f0 f1 f2 f3 t0 t1 t2 t3 (.sl (nx + 1) 0 os.length none) (.sl nx 0 (8 + db.length) none), .val (.int .i64 0)], (nx, objApp 5 (udpP f0 f1 f2 f3 t0 t1 t2 t3 fr tp db)) :: (nx + 1, objApp 5 os) :: L, nx + 2,
            [p1, p2, p3, byteP [f0, f1, f2, f3, t0, t1, t2, t3], 0 ≤ fr ∧ fr ≤ 65535, 0 ≤ tp ∧ tp ≤ 65535, db.length ≤ 1472, os.length ≤ 100000])
        else none
      | _, _, _ => none
    | _ => none
  else none

theorem kUdp_ok : InlOk Try.prog kUdp := by
  intro g xs L nx v L' nx' q h hq
  unfold kUdp at h
  split at h
  · rename_i hg
    subst hg
    split at h
    · rename_i tos id flags part ttl proto f0 f1 f2 f3 t0 t1 t2 t3 o b
      split at h
      · rename_i os p1 ys p2 ho hb
        split at h
        · rename_i hlt
          simp only [Option.some.injEq, Prod.mk.injEq] at h
          obtain ⟨rfl, rfl, rfl, rfl⟩ := h
          have c : ∀ p ∈ _, p := hq
          simp only [List.forall_mem_cons, List.not_mem_nil, false_implies, implies_true, and_true] at c
          obtain ⟨c1, c2, c3, c4, c5, c6, c7, c8, c9, c10⟩ := c
          have hc := (udpGet_c tos id flags part ttl proto f0 f1 f2 f3 t0 t1 t2 t3 os ys c3 c4 c5 c6 c7 c8 c9 c10).fresh' (L := L) (nx := nx) (by rfl) (by rfl) (FrsL.cons (FrsL.agg (FrsL.cons (Frs.v _) (FrsL.cons (Frs.v _) (FrsL.cons (Frs.v _) (FrsL.cons (Frs.v _) (FrsL.cons (Frs.v _) (FrsL.cons (Frs.v _) (FrsL.cons (Frs.v _) (FrsL.cons (Frs.v _) (FrsL.cons (Frs.v _) (FrsL.cons (Frs.v _) (FrsL.cons (Frs.v _) (FrsL.cons (Frs.v _) (FrsL.cons (Frs.v _) (FrsL.cons (Frs.v _) (FrsL.cons (Frs.bytes ho c1) (FrsL.cons (Frs.bytes hb c2) FrsL.nil))))))))))))))))) FrsL.nil) hlt
          refine ⟨?_, by omega⟩
          simpa [AV.ren, renL, renH, AObj.ren, objApp, plus] using hc
        · cases h
      · cases h
    · cases h
  · split at h
    · rename_i hg
      subst hg
      split at h
      · rename_i tos id flags part ttl proto f0 f1 f2 f3 t0 t1 t2 t3 o b fr tp d
        split at h
        · rename_i os p1 ys p2 db p3 ho hb hd
          split at h
          · rename_i hlt
            simp only [Option.some.injEq, Prod.mk.injEq] at h
            obtain ⟨rfl, rfl, rfl, rfl⟩ := h
            have c : ∀ p ∈ _, p := hq
            simp only [List.forall_mem_cons, List.not_mem_nil, false_implies, implies_true, and_true] at c
            obtain ⟨c1, c2, c3, c4, c5, c6, c7, c8⟩ := c
            have hc := (udpPut_c tos id flags part ttl proto f0 f1 f2 f3 t0 t1 t2 t3 fr tp os ys db c4 c5 c6 c7 c8).fresh' (L := L) (nx := nx) (by rfl) (by rfl) (FrsL.cons (FrsL.agg (FrsL.cons (Frs.v _) (FrsL.cons (Frs.v _) (FrsL.cons (Frs.v _) (FrsL.cons (Frs.v _) (FrsL.cons (Frs.v _) (FrsL.cons (Frs.v _) (FrsL.cons (Frs.v _) (FrsL.cons (Frs.v _) (FrsL.cons (Frs.v _) (FrsL.cons (Frs.v _) (FrsL.cons (Frs.v _) (FrsL.cons (Frs.v _) (FrsL.cons (Frs.v _) (FrsL.cons (Frs.v _) (FrsL.cons (Frs.bytes ho c1) (FrsL.cons (Frs.bytes hb c2) FrsL.nil))))))))))))))))) (FrsL.cons (FrsL.agg (FrsL.cons (Frs.v _) (FrsL.cons (Frs.v _) (FrsL.cons (Frs.bytes hd c3) FrsL.nil)))) FrsL.nil)) hlt
            refine ⟨?_, by omega⟩
            simpa [AV.ren, renL, renH, AObj.ren, objApp, plus, pkA, Nat.add_comm] using hc
          · cases h
        · cases h
      · cases h
    · cases h

def kU : Inl := orInl kUdp kTT
theorem kU_ok : InlOk Try.prog kU := orInl_ok kUdp_ok kTT_ok

/-- what is to be known of a datagram's bytes -/
theorem udpP_facts {ys : List UInt8} {f0 f1 f2 f3 t0 t1 t2 t3 fr tp : Int} {db : List UInt8} {n : Nat} (h : ys = udpP f0 f1 f2 f3 t0 t1 t2 t3 fr tp db) (hn : n = 8 + db.length) (hfr : 0 ≤ fr ∧ fr ≤ 65535) (htp : 0 ≤ tp ∧ tp ≤ 65535) (hd : db.length ≤ 60000) :
    ys.length = n ∧ List.take n ys = ys ∧ at16 ys 4 = n ∧ ((at16 ys 0 : Nat) : Int) = fr ∧ ((at16 ys 2 : Nat) : Int) = tp ∧ List.drop 8 ys = db ∧ ofL (psd 17 f0 f1 f2 f3 t0 t1 t2 t3 ((n : Nat) : Int) ys) = 0 := by
  subst h hn
  have hl := udpP_len f0 f1 f2 f3 t0 t1 t2 t3 fr tp db
  refine ⟨hl, List.take_of_length_le (by omega), udpP_n f0 f1 f2 f3 t0 t1 t2 t3 fr tp db hd, udpP_fr f0 f1 f2 f3 t0 t1 t2 t3 fr tp db hfr, udpP_tp f0 f1 f2 f3 t0 t1 t2 t3 fr tp db htp, udpP_drop f0 f1 f2 f3 t0 t1 t2 t3 fr tp db, ?_⟩
  have := udpP_sum f0 f1 f2 f3 t0 t1 t2 t3 fr tp db
  rwa [show (8 + (db.length : Int)) = ((8 + db.length : Nat) : Int) by omega] at this
theorem byte8 {a b c d e f g h : Int} (h0 : 0 ≤ a ∧ a < 256) (h1 : 0 ≤ b ∧ b < 256) (h2 : 0 ≤ c ∧ c < 256) (h3 : 0 ≤ d ∧ d < 256) (h4 : 0 ≤ e ∧ e < 256) (h5 : 0 ≤ f ∧ f < 256) (h6 : 0 ≤ g ∧ g < 256) (h7 : 0 ≤ h ∧ h < 256) : byteP [a, b, c, d, e, f, g, h] := by
  intro z hz
  simp only [List.mem_cons, List.not_mem_nil, or_false] at hz
  rcases hz with rfl | rfl | rfl | rfl | rfl | rfl | rfl | rfl <;> assumption
end Go.Proofs.Ytecmagdefllihaa
