/- Several texts in one: Gkn, Dl0, DlRun, Dl, Dm0, DmRun, Dm. -/
import Derived.Test.YtmilcpejchjleaaMkp
import Derived.Test.YtmilcpejchjleaaMgr
import Derived.Test.YtmilcpejchjleaaAn
import Derived.Test.YtmilcpejchjleaaMdi
import Derived.Test.YtmilcpejchjleaaRp
import Derived.Test.YtmilcpejchjleaaMez

/- name.Get, known in one of three ways; a name that was written is read. -/
namespace Go.Proofs.Ytmilcpejchjleaa
open Go.RowKit
set_option linter.unusedSimpArgs false

theorem gt_in {b : List UInt8} {z : Int} (h : getE b z = 0) : ∃ n : Nat, z = (n : Int) ∧ n < b.length := by
  unfold getE getW at h
  split at h
  · exact absurd h (by decide)
  · rename_i hz
    refine ⟨z.toNat, by omega, ?_⟩
    rw [getF] at h
    split at h
    · exact absurd h (by decide)
    · omega

theorem gt_c0 (b : List UInt8) (z : Int) (hb : b.length ≤ 1000000000) (he : getE b z ≠ 0) : ACall Try.prog 41 [.bytes b, iI z] [] 0 (.tup [nilS, iI 0, iI (getE b z)]) [] 25 := by
  by_cases hz : z < 0
  · have e : getE b z = 3 := by unfold getE getW; rw [if_pos hz]
    rw [e]
    exact (outXS_ok noneKnown_ok (gt_neg b z) (by
      repeat' (first | exact allNil | refine allCons ?_ ?_)
      all_goals exact decide_eq_true hz))
  · obtain ⟨n, rfl⟩ : ∃ n : Nat, z = (n : Int) := ⟨z.toNat, by omega⟩
    have h := gt_top b hb n
    have e : gtO (getW b (n : Int)) = gtEB (getE b (n : Int)) := if_pos he
    rw [e] at h
    exact (outXS_ok noneKnown_ok (gt_bad b n (getE b (n : Int))) (by
      repeat' (first | exact allNil | refine allCons ?_ ?_)
      all_goals first | (with_reducible rfl) | exact h | (simp [SameO]; done))).upTo (by decide)
theorem gt_c1 (b : List UInt8) (z : Int) (hb : b.length ≤ 1000000000) (he : getE b z = 0) (hl : getL b z = []) : ACall Try.prog 41 [.bytes b, iI z] [] 0 (.tup [nilS, iI (getN b z), iI 0]) [] 0 := by
  obtain ⟨n, rfl, hn⟩ := gt_in he
  have h := gt_top b hb n
  have e : gtO (getW b (n : Int)) = gtE0 (getN b (n : Int)) := by
    unfold gtO
    rw [if_neg (fun h' => h' he), if_pos (show (getW b (n : Int)).1 = [] from hl)]
    rfl
  rw [e] at h
  exact outXS_ok noneKnown_ok (gt_nil b n (getN b (n : Int))) (by
    repeat' (first | exact allNil | refine allCons ?_ ?_)
    all_goals first | (with_reducible rfl) | exact h | (simp [SameO]; done))
theorem gt_c2 (b : List UInt8) (z : Int) (hb : b.length ≤ 1000000000) (he : getE b z = 0) (hl : getL b z ≠ []) : ACall Try.prog 41 [.bytes b, iI z] [] 0 (.tup [.sl 0 0 (getL b z).length none, iI (getN b z), iI 0]) [(0, objFlat 9 1 (rowsL (getL b z)))] 1 := by
  obtain ⟨n, rfl, hn⟩ := gt_in he
  have h := gt_top b hb n
  have e : gtO (getW b (n : Int)) = gtE1 (getL b (n : Int)) (getN b (n : Int)) := by
    unfold gtO
    rw [if_neg (fun h' => h' he), if_neg (show ¬ (getW b (n : Int)).1 = [] from hl)]
    rfl
  rw [e] at h
  exact outXS_ok noneKnown_ok (gt_ok b n (getL b (n : Int)) (getN b (n : Int))) (by
    repeat' (first | exact allNil | refine allCons ?_ ?_)
    all_goals first | (with_reducible rfl) | exact h | (simp [SameO]; done))

def kGtn (way : Nat) : Inl := fun g xs L nx =>
  if g = 41 then
    match xs with
    | [x, .val (.int .i64 z)] =>
      match bytesOf (hp L) x with
      | some (b, p) =>
        if L.all (fun q => decide (q.1 < nx)) = true then
          if way = 0 then some (.tup [nilS, iI 0, iI (getE b z)], L, nx + 25, [p, b.length ≤ 1000000000, getE b z ≠ 0])
          else if way = 1 then some (.tup [nilS, iI (getN b z), iI 0], L, nx, [p, b.length ≤ 1000000000, getE b z = 0, getL b z = []])
          else some (.tup [.sl nx 0 (getL b z).length none, iI (getN b z), iI 0], (nx, objFlat 9 1 (rowsL (getL b z))) :: L, nx + 1, [p, b.length ≤ 1000000000, getE b z = 0, getL b z ≠ []])
        else none
      | none => none
    | _ => none
  else none
theorem kGtn_ok (way : Nat) : InlOk Try.prog (kGtn way) := by
  intro g xs L nx v L' nx' q h hq
  unfold kGtn at h
  split at h
  · rename_i hg
    subst hg
    split at h
    · rename_i x z
      split at h
      · rename_i b p hx
        split at h
        · rename_i hlt
          split at h
          · simp only [Option.some.injEq, Prod.mk.injEq] at h
            obtain ⟨rfl, rfl, rfl, rfl⟩ := h
            simp only [List.forall_mem_cons, List.not_mem_nil, false_implies, implies_true, and_true] at hq
            obtain ⟨q1, q2, q3⟩ := hq
            exact ⟨(gt_c0 b z q2 q3).fresh' (L := L) (nx := nx) (by rfl) (by rfl) (FrsL.cons (Frs.bytes hx q1) (FrsL.cons (Frs.v _) FrsL.nil)) hlt, by omega⟩
          · split at h
            · simp only [Option.some.injEq, Prod.mk.injEq] at h
              obtain ⟨rfl, rfl, rfl, rfl⟩ := h
              simp only [List.forall_mem_cons, List.not_mem_nil, false_implies, implies_true, and_true] at hq
              obtain ⟨q1, q2, q3, q4⟩ := hq
              exact ⟨(gt_c1 b z q2 q3 q4).fresh' (L := L) (nx := nx) (by rfl) (by rfl) (FrsL.cons (Frs.bytes hx q1) (FrsL.cons (Frs.v _) FrsL.nil)) hlt, by omega⟩
            · simp only [Option.some.injEq, Prod.mk.injEq] at h
              obtain ⟨rfl, rfl, rfl, rfl⟩ := h
              simp only [List.forall_mem_cons, List.not_mem_nil, false_implies, implies_true, and_true] at hq
              obtain ⟨q1, q2, q3, q4⟩ := hq
              have hpl : ([(0, objFlat 9 1 (rowsL (getL b z)))] : List (Nat × AObj)).all (fun p => p.2.plB 9) = true := by
                simp [AObj.plB, objFlat, rowsL, AV.plB, sStr]
              have := (gt_c2 b z q2 q3 q4).fresh' (L := L) (nx := nx) (by rfl) hpl (FrsL.cons (Frs.bytes hx q1) (FrsL.cons (Frs.v _) FrsL.nil)) hlt
              refine ⟨?_, by omega⟩
              simpa [AV.ren, renL, renH, ren_flat, plus, nilS, iI] using this
        · cases h
      · cases h
    · cases h
  · cases h
def kGn0 : Inl := kGtn 0
def kGn1 : Inl := kGtn 1
def kGn2 : Inl := kGtn 2

theorem getW_encN (b q : List UInt8) (ls : List (List UInt8)) (hg : goodN ls = true) : getW (b ++ (encL ls ++ 0 :: q)) (b.length : Int) = (ls, ((b.length + (encL ls).length + 1 : Nat) : Int), 0) := by
  have hc : ls.length ≤ 130 := by
    rcases goodF_count 1 ls hg with h | h
    · omega
    · subst h; simp
  unfold getW
  rw [if_neg (by omega), Int.toNat_natCast]
  obtain ⟨k, hk⟩ : ∃ k, 400 = (k + 1) + ls.length := ⟨399 - ls.length, by omega⟩
  rw [hk, getF_enc ls b (0 :: q) (k + 1) (-1) 0 0 [] hg, getF]
  have h0 : ((b ++ (encL ls ++ 0 :: q)).getD (b.length + (encL ls).length) 0).toNat = 0 := by
    have := getD_mid (b ++ encL ls) [0] q 0 (by simp)
    simp only [List.length_append, List.append_assoc, Nat.add_zero, List.singleton_append] at this
    rw [this]
    rfl
  have hl : (b ++ (encL ls ++ 0 :: q)).length = b.length + (encL ls).length + 1 + q.length := by simp; omega
  rw [h0, hl, if_neg (by omega), if_pos rfl]
  simp [nextP]
end Go.Proofs.Ytmilcpejchjleaa

/- A message that is read (dns.reader): words. -/
namespace Go.Proofs.Ytmilcpejchjleaa
open Go.RowKit

/-- what a reader holds: the bytes, where it stands, what was wrong first -/
def rdr (b : List UInt8) (a : Nat) (e : Int) : AObj := objOne 146 [.bytes b, sI a, iI e]
def rdB (b : List UInt8) (a : Nat) (e : Int) (n : Nat) : List UInt8 := if e = 0 ∧ a + n ≤ b.length then (b.drop a).take n else List.replicate n 0
def rdA (b : List UInt8) (a : Nat) (e : Int) (n : Nat) : Nat := if e = 0 ∧ a + n ≤ b.length then a + n else a
def rdE (b : List UInt8) (a : Nat) (e : Int) (n : Nat) : Int := if e = 0 then (if a + n ≤ b.length then 0 else 3) else e
def nmL (b : List UInt8) (a : Nat) (e : Int) : List (List UInt8) := if e = 0 then getL b a else []
def nmA (b : List UInt8) (a : Nat) (e : Int) : Nat := if e = 0 ∧ getE b a = 0 then (getN b a).toNat else a
def nmE (b : List UInt8) (a : Nat) (e : Int) : Int := if e = 0 then getE b a else e
def pr2 (b : List UInt8) (a : Nat) (e : Int) : Nat := ((rdB b a e 2).getD 0 0).toNat * 256 + ((rdB b a e 2).getD 1 0).toNat
end Go.Proofs.Ytmilcpejchjleaa

/- The reader of messages: bytes, names (runs). No condition. -/
namespace Go.Proofs.Ytmilcpejchjleaa
open Go.RowKit

set_option maxRecDepth 100000 in
theorem rb_e (b : List UInt8) (a : Nat) (e : Int) (n : Nat) : outXS noneKnown [(95, { br := [(8, false)] }),
   (124, { op := [(1, 18, .br true)], gd := [(1, 6, true), (1, 7, true), (1, 8, true), (1, 9, true), (1, 10, true), (1, 11, true), (1, 12, true), (1, 13, true), (1, 14, true), (1, 15, true), (1, 16, true), (1, 17, true)], ob := [(2, 1), (3, 1)] })] Try.prog 124 [AV.ptr 0 0 0, iI (↑n : Int)] [(0, (objOne 146 [AV.bytes b, iI (↑a : Int), iI e]))] 1 [0, 29] [] =
   some (AV.sl 29 0 n none, [(0, (objOne 146 [AV.bytes b, iI (↑a : Int), iI e])), (29, { t := 5, sz := 1, exact := true, fz := false, body := Body.bytes (List.replicate n (0 : UInt8)) })], 31,
   rp 13 ((e != (0 : Int)) = true) (
   ((e == (0 : Int)) = false) ::
   ((0 : Int) ≤ (↑n : Int) ∧ (↑n : Int) ≤ (1000000000 : Int) ∧ (↑n : Int) = (↑n : Int)) :: [])) := by kernel_rfl

set_option maxRecDepth 100000 in
theorem rb_short (b : List UInt8) (a : Nat) (e : Int) (n : Nat) : outXS noneKnown [(95, { br := [(8, true)] }),
   (124, { op := [(1, 18, .br false)], gd := [(1, 6, false), (1, 7, false), (1, 8, false), (1, 9, false), (1, 10, false), (1, 11, false), (1, 12, false), (1, 13, false), (1, 14, false), (1, 15, false), (1, 16, false), (1, 17, false)], br := [(23, true)], ob := [(2, 1), (3, 1)] })] Try.prog 124 [AV.ptr 0 0 0, iI (↑n : Int)] [(0, (objOne 146 [AV.bytes b, iI (↑a : Int), iI e]))] 1 [0, 34] [] =
   some (AV.sl 34 0 n none, [(0, (objOne 146 [AV.bytes b, iI (↑a : Int), iI (3 : Int)])), (34, { t := 5, sz := 1, exact := true, fz := false, body := Body.bytes (List.replicate n (0 : UInt8)) })], 36,
   rp 13 ((e != (0 : Int)) = false) (
   (decide ((↑n : Int) > IntKind.wrap IntKind.i64 ((↑(List.length b) : Int) - (↑a : Int))) = true) ::
   ((e == (0 : Int)) = true) ::
   ((0 : Int) ≤ (↑n : Int) ∧ (↑n : Int) ≤ (1000000000 : Int) ∧ (↑n : Int) = (↑n : Int)) :: [])) := by kernel_rfl

set_option maxRecDepth 100000 in
theorem rb_ok (b : List UInt8) (a : Nat) (e : Int) (n : Nat) : outXS noneKnown [(124, { op := [(1, 18, .br false)], gd := [(1, 6, false), (1, 7, false), (1, 8, false), (1, 9, false), (1, 10, false), (1, 11, false), (1, 12, false), (1, 13, false), (1, 14, false), (1, 15, false), (1, 16, false), (1, 17, false)], br := [(23, false)], ob := [(5, 15), (5, 16)] })] Try.prog 124 [AV.ptr 0 0 0, iI (↑n : Int)] [(0, (objOne 146 [AV.bytes b, iI (↑a : Int), iI e]))] 1 [0, 46] [] =
   some (AV.sl 46 0 (0 + List.length (List.drop (Int.toNat (IntKind.wrap IntKind.i64 (IntKind.wrap IntKind.i64 ((↑a : Int) + (↑n : Int)) - (↑n : Int)))) (List.take (Int.toNat (IntKind.wrap IntKind.i64 ((↑a : Int) + (↑n : Int)))) b))) none, [(0, (objOne 146 [AV.bytes b, iI (IntKind.wrap IntKind.i64 ((↑a : Int) + (↑n : Int))), iI e])), (46, { t := 5, sz := 1, exact := false, fz := false, body := Body.bytes (List.drop (Int.toNat (IntKind.wrap IntKind.i64 (IntKind.wrap IntKind.i64 ((↑a : Int) + (↑n : Int)) - (↑n : Int)))) (List.take (Int.toNat (IntKind.wrap IntKind.i64 ((↑a : Int) + (↑n : Int)))) b)) })], 48,
   rp 13 ((e != (0 : Int)) = false) (
   (decide ((↑n : Int) > IntKind.wrap IntKind.i64 ((↑(List.length b) : Int) - (↑a : Int))) = false) ::
   ((0 : Int) ≤ IntKind.wrap IntKind.i64 (IntKind.wrap IntKind.i64 ((↑a : Int) + (↑n : Int)) - (↑n : Int))) ::
   ((0 : Int) ≤ IntKind.wrap IntKind.i64 ((↑a : Int) + (↑n : Int))) ::
   (Int.toNat (IntKind.wrap IntKind.i64 (IntKind.wrap IntKind.i64 ((↑a : Int) + (↑n : Int)) - (↑n : Int))) ≤ Int.toNat (IntKind.wrap IntKind.i64 ((↑a : Int) + (↑n : Int))) ∧ Int.toNat (IntKind.wrap IntKind.i64 ((↑a : Int) + (↑n : Int))) ≤ List.length b) ::
   (True) ::
   (0 = 0 ∧ 0 + List.length (List.drop (Int.toNat (IntKind.wrap IntKind.i64 (IntKind.wrap IntKind.i64 ((↑a : Int) + (↑n : Int)) - (↑n : Int)))) (List.take (Int.toNat (IntKind.wrap IntKind.i64 ((↑a : Int) + (↑n : Int)))) b)) ≤ 1000000000) :: [])) := by kernel_rfl

set_option maxRecDepth 100000 in
theorem rn_e (b : List UInt8) (a : Nat) (e : Int) : outXS noneKnown [(126, { br := [(10, true)] })] Try.prog 126 [AV.ptr 0 0 0] [(0, (objOne 146 [AV.bytes b, iI (↑a : Int), iI e]))] 1 [0] [] =
   some (AV.val (Value.slice none 0 0), [(0, (objOne 146 [AV.bytes b, iI (↑a : Int), iI e]))], 8,
   ((e != (0 : Int)) = true) :: []) := by kernel_rfl

set_option maxRecDepth 100000 in
theorem rn_bad (b : List UInt8) (a : Nat) (e : Int) : outXS kGn0 [(95, { br := [(8, true)] }),
   (126, { br := [(10, false), (25, true)], ob := [(5, 2)] })] Try.prog 126 [AV.ptr 0 0 0] [(0, (objOne 146 [AV.bytes b, iI (↑a : Int), iI e]))] 1 [0] [] =
   some (AV.val (Value.slice none 0 0), [(0, (objOne 146 [AV.bytes b, iI (↑a : Int), iI (getE b (↑a : Int))]))], 64,
   ((e != (0 : Int)) = false) ::
   (True) ::
   (List.length b ≤ 1000000000) ::
   (getE b (↑a : Int) ≠ (0 : Int)) ::
   ((getE b (↑a : Int) != (0 : Int)) = true) ::
   ((e == (0 : Int)) = true) :: []) := by kernel_rfl

set_option maxRecDepth 100000 in
theorem rn_nil (b : List UInt8) (a : Nat) (e : Int) : outXS kGn1 [(126, { br := [(10, false)] })] Try.prog 126 [AV.ptr 0 0 0] [(0, (objOne 146 [AV.bytes b, iI (↑a : Int), iI e]))] 1 [0] [] =
   some (AV.val (Value.slice none 0 0), [(0, (objOne 146 [AV.bytes b, iI (getN b (↑a : Int)), iI e]))], 32,
   ((e != (0 : Int)) = false) ::
   (True) ::
   (List.length b ≤ 1000000000) ::
   (getE b (↑a : Int) = (0 : Int)) ::
   (getL b (↑a : Int) = []) :: []) := by kernel_rfl

set_option maxRecDepth 100000 in
theorem rn_ok (b : List UInt8) (a : Nat) (e : Int) : outXS kGn2 [(126, { br := [(10, false)] })] Try.prog 126 [AV.ptr 0 0 0] [(0, (objOne 146 [AV.bytes b, iI (↑a : Int), iI e]))] 1 [0, 23] [] =
   some (AV.sl 23 0 (List.length (getL b (↑a : Int))) none, [(0, (objOne 146 [AV.bytes b, iI (getN b (↑a : Int)), iI e])), (23, { t := 9, sz := 1, exact := false, fz := false, body := Body.flat (rowsL (getL b (↑a : Int))) })], 33,
   ((e != (0 : Int)) = false) ::
   (True) ::
   (List.length b ≤ 1000000000) ::
   (getE b (↑a : Int) = (0 : Int)) ::
   (getL b (↑a : Int) ≠ []) :: []) := by kernel_rfl
end Go.Proofs.Ytmilcpejchjleaa

/- The reader of messages: bytes, names; what they yield. -/
namespace Go.Proofs.Ytmilcpejchjleaa
open Go.RowKit
set_option linter.unusedSimpArgs false
set_option linter.unusedVariables false

/-- less is said of some objects: how much they can hold -/
theorem ACall.loose {P : Program} {g : FuncId} {xs : List AV} {L L1 L2 : List (Nat × AObj)} {nx n1 : Nat} {v : AV} (h : ACall P g xs L nx v L1 n1) (hs : ∀ id o, hp L2 id = some o → ∃ o', hp L1 id = some o' ∧ (o = o' ∨ o = { o' with exact := false })) : ACall P g xs L nx v L2 n1 := by
  intro E w vs hs' hr
  refine Calls.mono (h E w vs hs' hr) fun e w' hh => ?_
  obtain ⟨E', u, rfl, t1, t2, t3⟩ := hh
  refine ⟨E', u, rfl, ⟨fun id o ho => ?_, fun id id' o o' b c s c' s' h1 h2 h3 h4 => ?_, t1.fresh, t1.imm⟩, t2, ⟨t3.f, t3.nw, t3.I, t3.I', t3.fr, fun b hb => t3.hb b ?_, t3.size, t3.os, t3.tape, t3.output⟩⟩
  · obtain ⟨o', k1, k2⟩ := hs id o ho
    obtain ⟨p, p1, p2⟩ := t1.rows _ _ k1
    refine ⟨p, p1, ?_⟩
    rcases k2 with rfl | rfl
    · exact p2
    · cases p with
      | nil => exact ⟨p2.1, rfl⟩
      | at_ b c sz =>
        obtain ⟨h1, h2, h3, h4, h5, h6⟩ := p2
        exact ⟨h1, h2, h3, h4, (fun h => by cases h), h6⟩
  · obtain ⟨x, k1, _⟩ := hs _ _ h1
    obtain ⟨x', k2, _⟩ := hs _ _ h2
    exact t1.inj _ _ _ _ _ _ _ _ _ k1 k2 h3 h4
  · obtain ⟨id, x, c, sz, h1, h2⟩ := hb
    obtain ⟨x', k1, _⟩ := hs _ _ h1
    exact ⟨id, x', c, sz, k1, h2⟩

theorem rdB_len (b : List UInt8) (a : Nat) (e : Int) (n : Nat) : (rdB b a e n).length = n := by
  unfold rdB
  split
  · rename_i h
    rw [List.length_take, List.length_drop]; omega
  · exact List.length_replicate ..

theorem rdA_le {b : List UInt8} {a : Nat} {e : Int} {n : Nat} (h : a ≤ b.length) : rdA b a e n ≤ b.length := by
  unfold rdA
  split <;> omega

def rbO (xs : List UInt8) : AObj := ⟨5, 1, false, false, .bytes xs⟩
section
variable (b : List UInt8) (a : Nat) (e : Int) (n : Nat)
theorem rb_own (hb : b.length ≤ 1000000) (ha : a ≤ b.length) (hn : n ≤ 1000000) :
    ACall Try.prog 124 [.ptr 0 0 0, sI n] [(0, rdr b a e)] 1 (.sl 1 0 n none) [(0, rdr b (rdA b a e n) (rdE b a e n)), (1, rbO (rdB b a e n))] 2 := by
  have key : ∀ (k N : Nat) (x : Bool) (a' : Nat) (e' : Int) (ys : List UInt8) (n' : Nat), ACall Try.prog 124 [.ptr 0 0 0, sI n] [(0, rdr b a e)] 1 (.sl k 0 n' none) [(0, rdr b a' e'), (k, ⟨5, 1, x, false, .bytes ys⟩)] N → 1 ≤ k → k < N → n' = n → a' = rdA b a e n → e' = rdE b a e n → ys = rdB b a e n →
      ACall Try.prog 124 [.ptr 0 0 0, sI n] [(0, rdr b a e)] 1 (.sl 1 0 n none) [(0, rdr b (rdA b a e n) (rdE b a e n)), (1, rbO (rdB b a e n))] 2 := by
    rintro k N x a' e' ys n' h h1 h2 rfl rfl rfl rfl
    have h3 := h.renew (L2 := [(0, rdr b (rdA b a e n') (rdE b a e n')), (1, ⟨5, 1, x, false, .bytes (rdB b a e n')⟩)]) (v' := .sl 1 0 n' none) [k] (by omega) (by simp) (by simp; omega) (by simp [AV.ren, renX]) (by
      intro i y hy
      simp only [hp] at hy
      split at hy
      · rename_i hi
        injection hy with hy
        subst hi hy
        simp [renX, hp, rdr, objOne, AObj.ren, renL, AV.ren, sI, iI]
      · split at hy
        · rename_i hi
          injection hy with hy
          subst hi hy
          have : ¬ k = 0 := by omega
          simp [renX, hp, AObj.ren, this]
        · cases hy)
    refine h3.loose fun i o ho => ?_
    simp only [hp] at ho ⊢
    split at ho
    · rename_i hi
      exact ⟨o, by rw [if_pos hi]; exact ho, .inl rfl⟩
    · rename_i hi
      split at ho
      · rename_i hi2
        injection ho with ho
        exact ⟨_, by rw [if_neg hi, if_pos hi2], .inr ho.symm⟩
      · cases ho
  have hw : IntKind.wrap IntKind.i64 ((b.length : Int) - (a : Int)) = ((b.length - a : Nat) : Int) := by rw [w64 _ (by omega)]; omega
  by_cases he : e = 0
  · subst he
    by_cases hl : a + n ≤ b.length
    · have h := outXS_ok noneKnown_ok (rb_ok b a 0 n) (by
        have h1 : IntKind.wrap IntKind.i64 ((a : Int) + (n : Int)) = ((a + n : Nat) : Int) := by rw [w64 _ (by omega)]; omega
        have h2 : IntKind.wrap IntKind.i64 (((a + n : Nat) : Int) - (n : Int)) = (a : Int) := by rw [w64 _ (by omega)]; omega
        rw [hw, h1, h2]
        repeat' (first | exact allNil | refine allCons ?_ ?_ | (with_reducible refine allRp _ ?_ ?_))
        all_goals first | (with_reducible rfl) | exact True.intro | exact decide_eq_false (by omega) | omega | (simp; omega) | exact rfl)
      have h1 : IntKind.wrap IntKind.i64 ((a : Int) + (n : Int)) = ((a + n : Nat) : Int) := by rw [w64 _ (by omega)]; omega
      have h2 : IntKind.wrap IntKind.i64 (((a + n : Nat) : Int) - (n : Int)) = (a : Int) := by rw [w64 _ (by omega)]; omega
      rw [h1, h2] at h
      refine key _ _ _ _ _ _ _ h (by omega) (by omega) (by simp; omega) (by unfold rdA; rw [if_pos ⟨rfl, hl⟩]) (by unfold rdE; rw [if_pos rfl, if_pos hl]) ?_
      unfold rdB
      rw [if_pos ⟨rfl, hl⟩, Int.toNat_natCast, Int.toNat_natCast, dropTake]
    · have h := outXS_ok noneKnown_ok (rb_short b a 0 n) (by
        rw [hw]
        repeat' (first | exact allNil | refine allCons ?_ ?_ | (with_reducible refine allRp _ ?_ ?_))
        all_goals first | (with_reducible rfl) | exact True.intro | exact decide_eq_true (by omega) | omega | exact rfl)
      exact key _ _ _ _ _ _ _ h (by omega) (by omega) rfl (by unfold rdA; rw [if_neg (by omega)]) (by unfold rdE; rw [if_pos rfl, if_neg hl]) (by unfold rdB; rw [if_neg (by omega)])
  · have h := outXS_ok noneKnown_ok (rb_e b a e n) (by
      repeat' (first | exact allNil | refine allCons ?_ ?_ | (with_reducible refine allRp _ ?_ ?_))
      all_goals first | (with_reducible rfl) | exact True.intro | (simp; omega) | omega)
    exact key _ _ _ _ _ _ _ h (by omega) (by omega) rfl (by unfold rdA; rw [if_neg (by omega)]) (by unfold rdE; rw [if_neg he]) (by unfold rdB; rw [if_neg (by omega)])

/-- bytes of a row of one's own, told -/
theorem ACall.tellB {P : Program} {g : FuncId} {xs : List AV} {L L1 L2 : List (Nat × AObj)} {nx n1 k m : Nat} {bs : List UInt8} (h : ACall P g xs L nx (.sl k 0 m none) L1 n1) (hk : hp L1 k = some (rbO bs)) (hm : m = bs.length) (hs : ∀ id x, hp L2 id = some x → id ≠ k ∧ hp L1 id = some x) : ACall P g xs L nx (.bytes bs) L2 n1 := by
  subst hm
  refine h.as (c := .c (.c (.bytes bs))) (B := [k]) (obs := [0 + bs.length ≤ bs.length, (bs.drop 0).take bs.length = bs]) ?_ ?_ ?_ ?_ (Nat.le_refl _)
  · simp [co2, co1, co0, bytesOf, hk, rbO, inB, idOf]
  · simp
  · intro id hid
    have e := List.mem_singleton.1 hid
    subst e
    exact ⟨_, hk⟩
  · intro id x hid
    obtain ⟨h1, h2⟩ := hs id x hid
    exact ⟨by simpa using h1, h2⟩

theorem rb_call (hb : b.length ≤ 1000000) (ha : a ≤ b.length) (hn : n ≤ 1000000) :
    ACall Try.prog 124 [.ptr 0 0 0, sI n] [(0, rdr b a e)] 1 (.bytes (rdB b a e n)) [(0, rdr b (rdA b a e n) (rdE b a e n))] 2 := by
  refine (rb_own b a e n hb ha hn).tellB (k := 1) rfl (rdB_len b a e n).symm fun id x hid => ?_
  simp only [hp] at hid
  split at hid
  · rename_i hi
    subst hi
    exact ⟨by decide, by simpa [hp] using hid⟩
  · cases hid
end
end Go.Proofs.Ytmilcpejchjleaa

/- A name that is read in a message: plain facts; the reader's functions, known. -/
namespace Go.Proofs.Ytmilcpejchjleaa
open Go.RowKit
set_option linter.unusedSimpArgs false
set_option linter.unusedVariables false

theorem nextP_in {b : List UInt8} {nx : Int} {n : Nat} (h : nx < 0 ∨ (0 ≤ nx ∧ nx ≤ (b.length : Int))) (hn : n ≤ b.length) : 0 ≤ nextP nx n ∧ nextP nx n ≤ (b.length : Int) := by
  unfold nextP
  split <;> omega
theorem getF_in (b : List UInt8) : ∀ (k at_ : Nat) (nx : Int) (ld sz : Nat) (l : List (List UInt8)), (getF b k at_ nx ld sz l).2.2 = 0 → (nx < 0 ∨ (0 ≤ nx ∧ nx ≤ (b.length : Int))) → 0 ≤ (getF b k at_ nx ld sz l).2.1 ∧ (getF b k at_ nx ld sz l).2.1 ≤ (b.length : Int)
  | 0, _, _, _, _, _, h, _ => by simp [getF] at h
  | k + 1, at_, nx, ld, sz, l, h, hn => by
    unfold getF at h ⊢
    split
    · rename_i c; rw [if_pos c] at h; exact absurd h (by decide)
    · rename_i c
      rw [if_neg c] at h
      split
      · exact nextP_in hn (by omega)
      · rename_i c1
        rw [if_neg c1] at h
        split
        · rename_i c2
          rw [if_pos c2] at h
          split
          · rename_i c3; rw [if_pos c3] at h; exact absurd h (by decide)
          · rename_i c3
            rw [if_neg c3] at h
            split
            · rename_i c4; rw [if_pos c4] at h; exact absurd h (by decide)
            · rename_i c4
              rw [if_neg c4] at h
              exact getF_in b _ _ _ _ _ _ h (.inr (nextP_in hn (by omega)))
        · rename_i c2
          rw [if_neg c2] at h
          split
          · rename_i c3; rw [if_pos c3] at h; exact absurd h (by decide)
          · rename_i c3
            rw [if_neg c3] at h
            split
            · rename_i c4; rw [if_pos c4] at h; exact absurd h (by decide)
            · rename_i c4
              rw [if_neg c4] at h
              split
              · rename_i c5; rw [if_pos c5] at h; exact absurd h (by decide)
              · rename_i c5
                rw [if_neg c5] at h
                exact getF_in b _ _ _ _ _ _ h hn

def szF : List (List UInt8) → Nat
  | [] => 0
  | s :: r => 1 + s.length + szF r
theorem goodF_snoc : ∀ (z : Nat) (l : List (List UInt8)) (s : List UInt8), goodF z l = true → 1 ≤ s.length → s.length ≤ 63 → z + szF l + 1 + s.length ≤ 255 → goodF z (l ++ [s]) = true
  | z, [], s, _, h1, h2, h3 => by
    simp only [szF] at h3
    simp only [List.nil_append, goodF]
    rw [if_neg (by omega), if_neg (by omega)]
  | z, x :: r, s, h, h1, h2, h3 => by
    simp only [List.cons_append, goodF] at h ⊢
    simp only [szF] at h3
    split at h
    · cases h
    · rename_i c
      rw [if_neg c]
      split at h
      · cases h
      · rename_i c2
        rw [if_neg c2]
        exact goodF_snoc _ r s h h1 h2 (by omega)
theorem szF_app (l : List (List UInt8)) (s : List UInt8) : szF (l ++ [s]) = szF l + 1 + s.length := by
  induction l with
  | nil => simp [szF]
  | cons x r ih => simp only [List.cons_append, szF, ih]; omega
theorem getF_good (b : List UInt8) : ∀ (k at_ : Nat) (nx : Int) (ld sz : Nat) (l : List (List UInt8)), goodF 1 l = true → szF l = sz → goodF 1 (getF b k at_ nx ld sz l).1 = true
  | 0, _, _, _, _, _, _, _ => rfl
  | k + 1, at_, nx, ld, sz, l, h, hz => by
    unfold getF
    split
    · rfl
    · split
      · exact h
      · split
        · split
          · rfl
          · split
            · rfl
            · exact getF_good b _ _ _ _ _ _ h hz
        · split
          · rfl
          · split
            · rfl
            · split
              · rfl
              · rename_i c1 c2 c3 c4 c5 c6
                have hl : ((b.drop (at_ + 1)).take (b.getD at_ 0).toNat).length = (b.getD at_ 0).toNat := by
                  rw [List.length_take, List.length_drop]; omega
                refine getF_good b _ _ _ _ _ _ (goodF_snoc 1 l _ h (by omega) (by omega) (by omega)) ?_
                rw [szF_app, hl]; omega
theorem getL_good (b : List UInt8) (z : Int) : goodN (getL b z) = true := by
  unfold getL getW
  split
  · rfl
  · exact getF_good b _ _ _ _ _ _ rfl rfl
theorem getN_in {b : List UInt8} {z : Int} (h : getE b z = 0) : 0 ≤ getN b z ∧ getN b z ≤ (b.length : Int) := by
  unfold getE getW at h
  unfold getN getW
  split
  · rename_i c; rw [if_pos c] at h; exact absurd h (by decide)
  · rename_i c
    rw [if_neg c] at h
    exact getF_in b _ _ _ _ _ _ h (.inl (by decide))
theorem nmL_good (b : List UInt8) (a : Nat) (e : Int) : goodN (nmL b a e) = true := by
  unfold nmL
  split
  · exact getL_good b _
  · rfl
theorem nmA_le {b : List UInt8} {a : Nat} {e : Int} (h : a ≤ b.length) : nmA b a e ≤ b.length := by
  unfold nmA
  split
  · rename_i c
    have := getN_in c.2
    omega
  · exact h

theorem nil_vS {P : Program} {g : FuncId} {xs : List AV} {L L1 : List (Nat × AObj)} {nx n1 : Nat} (h : ACall P g xs L nx nilS L1 n1) : ACall P g xs L nx (vS []) L1 n1 := by
  refine h.told (L2 := L1) [] (by simp) (fun id x hx => ⟨by simp, hx⟩) fun E w u hs hr => ?_
  rw [hr.val_inv]
  exact .view (b := 0) (o := 0) (fun _ _ => undef) (Nat.le_refl _) (Nat.zero_le _) (fun h => absurd h (by simp)) (fun i h => absurd h (by simp)) (fun i j h => absurd h (by simp)) (fun i j a h => absurd h (by simp))

theorem rn_call (b : List UInt8) (a : Nat) (e : Int) (hb : b.length ≤ 1000000) :
    ACall Try.prog 126 [.ptr 0 0 0] [(0, rdr b a e)] 1 (vS (nmL b a e)) [(0, rdr b (nmA b a e) (nmE b a e))] 100 := by
  by_cases he : e = 0
  · subst he
    have e1 : nmL b a 0 = getL b a := if_pos rfl
    have e3 : nmE b a 0 = getE b a := if_pos rfl
    by_cases hg : getE b a = 0
    · have e2 : ((nmA b a 0 : Nat) : Int) = getN b a := by
        unfold nmA
        rw [if_pos ⟨rfl, hg⟩]
        have := getN_in hg
        omega
      by_cases hl : getL b a = []
      · have h := outXS_ok (kGtn_ok 1) (rn_nil b a 0) (by
          repeat' (first | exact allNil | refine allCons ?_ ?_ | (with_reducible refine allRp _ ?_ ?_))
          all_goals first | (with_reducible rfl) | exact True.intro | omega | exact hg | exact hl | exact rfl)
        rw [← e2] at h
        rw [e1, hl, e3, hg]
        exact (nil_vS h).upTo (n2 := 100) (by decide)
      · have h := outXS_ok (kGtn_ok 2) (rn_ok b a 0) (by
          repeat' (first | exact allNil | refine allCons ?_ ?_ | (with_reducible refine allRp _ ?_ ?_))
          all_goals first | (with_reducible rfl) | exact True.intro | omega | exact hg | exact hl | exact rfl)
        rw [← e2] at h
        rw [e1, e3, hg]
        refine (h.told (L2 := [(0, rdr b (nmA b a 0) 0)]) [23] (fun id hid => by
          have e := List.mem_singleton.1 hid
          subst e
          exact ⟨_, rfl⟩) (fun id x hid => ?_) fun E w u hs hr => Rep.frzRow (id := 23) hs rfl (List.mem_singleton.2 rfl) (.inl rfl) rfl rfl hr).upTo (by decide)
        simp only [hp] at hid
        split at hid
        · rename_i hi
          subst hi
          exact ⟨by decide, hid⟩
        · cases hid
    · have h := outXS_ok (kGtn_ok 0) (rn_bad b a 0) (by
        repeat' (first | exact allNil | refine allCons ?_ ?_ | (with_reducible refine allRp _ ?_ ?_))
        all_goals first | (with_reducible rfl) | exact True.intro | omega | exact hg | exact rfl | (simp [hg]; done))
      have e2 : nmA b a 0 = a := by unfold nmA; rw [if_neg (fun h => hg h.2)]
      rw [e1, (getW_bad hg).1, e2, e3]
      exact (nil_vS h).upTo (n2 := 100) (by decide)
  · have h := outXS_ok noneKnown_ok (rn_e b a e) (by
      repeat' (first | exact allNil | refine allCons ?_ ?_ | (with_reducible refine allRp _ ?_ ?_))
      all_goals (simp [he]))
    have e1 : nmL b a e = [] := if_neg he
    have e2 : nmA b a e = a := by unfold nmA; rw [if_neg (fun h => he h.1)]
    have e3 : nmE b a e = e := if_neg he
    rw [e1, e2, e3]
    exact (nil_vS h).upTo (n2 := 100) (by decide)

/-- a method of the reader's, known: out of what it holds, and the other arguments -/
def kMeth (f : FuncId) (k : Nat) (F : List UInt8 → Nat → Int → List AV → Option (AV × Nat × Int × List Prop)) : Inl := fun g xs L nx =>
  if g = f then
    match xs with
    | .ptr id 0 0 :: ys =>
      match hp L id with
      | some ⟨146, 3, true, false, .rows [[.bytes b, .val (.int .i64 a), .val (.int .i64 e)]]⟩ =>
        if id < nx then
          match F b a.toNat e ys with
          | some (v, a', e', q) => some (v, (id, rdr b a' e') :: L.filter fun p => ![id].contains p.1, nx + k, (0 ≤ a) :: q)
          | none => none
        else none
      | _ => none
    | _ => none
  else none
theorem kMeth_ok {P : Program} {f : FuncId} {k : Nat} {F : List UInt8 → Nat → Int → List AV → Option (AV × Nat × Int × List Prop)}
    (h : ∀ b a e ys v a' e' q, F b a e ys = some (v, a', e', q) → (∀ p ∈ q, p) → (∀ r : Nat → Nat, renL r ys = ys) ∧ (∀ r : Nat → Nat, v.ren r = v) ∧ ∃ n, n ≤ k + 1 ∧ ACall P f (.ptr 0 0 0 :: ys) [(0, rdr b a e)] 1 v [(0, rdr b a' e')] n) : InlOk P (kMeth f k F) := by
  intro g xs L nx v L' nx' q h1 hq
  unfold kMeth at h1
  split at h1
  · rename_i hg
    subst hg
    split at h1
    · rename_i id ys
      split at h1
      · rename_i b a e hid
        split at h1
        · rename_i hlt
          split at h1
          · rename_i v' a' e' q' hF
            simp only [Option.some.injEq, Prod.mk.injEq] at h1
            obtain ⟨rfl, rfl, rfl, rfl⟩ := h1
            have ha : 0 ≤ a := hq _ List.mem_cons_self
            obtain ⟨hy, hv, n, hn, hc⟩ := h b a.toNat e ys _ _ _ _ hF fun p hp => hq p (List.mem_cons_of_mem _ hp)
            have hc := hc.upTo hn
            refine ⟨?_, by omega⟩
            have ea : ((a.toNat : Nat) : Int) = a := by omega
            have := ACall.used (ids := [id]) (K := L) (nx := nx) (hc : ACall P _ _ _ [id].length _ _ (k + 1))
              (by simp) (by simp [hlt]) (by simp) (fun m x hm => ?_)
            · have e1 : renL (renN [id] nx) (.ptr 0 0 0 :: ys) = .ptr id 0 0 :: ys := by
                show AV.ptr (renN [id] nx 0) 0 0 :: renL (renN [id] nx) ys = _
                rw [hy]; simp [renN]
              have e2 : renH (renN [id] nx) [(0, rdr b a' e')] = [(id, rdr b a' e')] := by
                simp [renH, renN, rdr, objOne, AObj.ren, renL, AV.ren, sI, iI]
              rw [e1, e2, hv] at this
              simpa using this
            · simp only [hp] at hm
              split at hm
              · rename_i e0
                injection hm with hm
                subst e0 hm
                refine ⟨by simp, ?_⟩
                have : (rdr b a.toNat e).ren (renN [id] nx) = rdr b a.toNat e := by simp [rdr, objOne, AObj.ren, renL, AV.ren, sI, iI]
                rw [this]
                simp only [renN, List.getD_cons_zero]
                rw [hid]
                simp [rdr, objOne, sI, iI, ea]
              · cases hm
          · cases h1
        · cases h1
      · cases h1
    · cases h1
  · cases h1

def kRb : Inl := kMeth 124 1 fun b a e ys =>
  match ys with
  | [.val (.int .i64 n)] => some (.bytes (rdB b a e n.toNat), rdA b a e n.toNat, rdE b a e n.toNat, [b.length ≤ 1000000, a ≤ b.length, 0 ≤ n, n ≤ 1000000])
  | _ => none
theorem kRb_ok : InlOk Try.prog kRb := kMeth_ok fun b a e ys v a' e' q hF hq => by
  split at hF
  · rename_i n
    simp only [Option.some.injEq, Prod.mk.injEq] at hF
    obtain ⟨rfl, rfl, rfl, rfl⟩ := hF
    simp only [List.forall_mem_cons, List.not_mem_nil, false_implies, implies_true, and_true] at hq
    obtain ⟨q1, q2, q3, q4⟩ := hq
    refine ⟨fun r => rfl, fun r => rfl, 2, by decide, ?_⟩
    have := rb_call b a e n.toNat q1 q2 (by omega)
    have en : ((n.toNat : Nat) : Int) = n := by omega
    unfold sI at this
    rwa [en] at this
  · cases hF
def kRn : Inl := kMeth 126 99 fun b a e ys =>
  match ys with
  | [] => some (vS (nmL b a e), nmA b a e, nmE b a e, [b.length ≤ 1000000])
  | _ => none
theorem kRn_ok : InlOk Try.prog kRn := kMeth_ok fun b a e ys v a' e' q hF hq => by
  split at hF
  · simp only [Option.some.injEq, Prod.mk.injEq] at hF
    obtain ⟨rfl, rfl, rfl, rfl⟩ := hF
    simp only [List.forall_mem_cons, List.not_mem_nil, false_implies, implies_true, and_true] at hq
    exact ⟨fun r => rfl, fun r => rfl, 100, by decide, rn_call b a e hq⟩
  · cases hF
def kRbn : Inl := orInl kRb kRn
theorem kRbn_ok : InlOk Try.prog kRbn := orInl_ok kRb_ok kRn_ok
end Go.Proofs.Ytmilcpejchjleaa

/- The reader of messages: pairs; shapes of data (runs). No condition. -/
namespace Go.Proofs.Ytmilcpejchjleaa
open Go.RowKit

set_option maxRecDepth 100000 in
theorem rp_run (b : List UInt8) (a : Nat) (e : Int) (x : UInt8) (y : UInt8) : outXS kRbn [(125, { ob := [(1, 1)] }),
   (92, { op := [(1, 1, Hn.as (Co2.c (Co1.c (Co0.bytes [x, y]))))], ob := [(1, 1), (1, 3)] }),
   (138, { ob := [(2, 2)] })] Try.prog 92 [AV.ptr 0 0 0] [(0, { t := 146, sz := 3, exact := true, fz := false, body := Body.rows [[AV.bytes b, AV.val (Value.int IntKind.i64 (↑a : Int)), AV.val (Value.int IntKind.i64 e)]] })] 1 [0] [] =
   some (AV.val (Value.int IntKind.i64 (IntKind.wrap IntKind.i64 (bits BinOp.or IntKind.u32 (IntKind.wrap IntKind.u32 (bits BinOp.or IntKind.u32 (0 : Int) (IntKind.wrap IntKind.u32 (↑(UInt8.toNat x) : Int)) * (256 : Int))) (IntKind.wrap IntKind.u32 (↑(UInt8.toNat y) : Int))))), [(0, { t := 146, sz := 3, exact := true, fz := false, body := Body.rows [[AV.bytes b, AV.val (Value.int IntKind.i64 (↑(rdA b a e 2) : Int)), AV.val (Value.int IntKind.i64 (rdE b a e 2))]] })], 88,
   ((0 : Int) ≤ (↑a : Int)) ::
   (List.length b ≤ 1000000) ::
   (a ≤ List.length b) ::
   ((0 : Int) ≤ (2 : Int)) ::
   ((2 : Int) ≤ (1000000 : Int)) ::
   (True) ::
   (rdB b a e 2 = [x, y]) :: []) := by kernel_rfl

set_option maxRecDepth 100000 in
theorem sh_2 (t : Int) : outXS noneKnown [(139, { br := [(7, true)] })] Try.prog 139 [AV.val (Value.int IntKind.i64 t)] [] 0 [] [] =
   some (AV.tup [AV.val (Value.int IntKind.i64 (0 : Int)), AV.val (Value.int IntKind.i64 (1 : Int)), AV.val (Value.int IntKind.i64 (0 : Int)), AV.val (Value.bool true)], [], 11,
   rp 2 ((t == (2 : Int)) = true) ( [])) := by kernel_rfl

set_option maxRecDepth 100000 in
theorem sh_5 (t : Int) : outXS noneKnown [] Try.prog 139 [AV.val (Value.int IntKind.i64 (5 : Int))] [] 0 [] [] =
   some (AV.tup [AV.val (Value.int IntKind.i64 (0 : Int)), AV.val (Value.int IntKind.i64 (1 : Int)), AV.val (Value.int IntKind.i64 (0 : Int)), AV.val (Value.bool true)], [], 13,
   []) := by kernel_rfl

set_option maxRecDepth 100000 in
theorem sh_12 (t : Int) : outXS noneKnown [] Try.prog 139 [AV.val (Value.int IntKind.i64 (12 : Int))] [] 0 [] [] =
   some (AV.tup [AV.val (Value.int IntKind.i64 (0 : Int)), AV.val (Value.int IntKind.i64 (1 : Int)), AV.val (Value.int IntKind.i64 (0 : Int)), AV.val (Value.bool true)], [], 15,
   []) := by kernel_rfl

set_option maxRecDepth 100000 in
theorem sh_15 (t : Int) : outXS noneKnown [(139, { br := [(7, false), (11, true)] })] Try.prog 139 [AV.val (Value.int IntKind.i64 t)] [] 0 [] [] =
   some (AV.tup [AV.val (Value.int IntKind.i64 (2 : Int)), AV.val (Value.int IntKind.i64 (1 : Int)), AV.val (Value.int IntKind.i64 (0 : Int)), AV.val (Value.bool true)], [], 17,
   ((t == (2 : Int)) = false) ::
   ((t == (5 : Int)) = false) ::
   ((t == (12 : Int)) = false) ::
   ((t == (15 : Int)) = true) :: []) := by kernel_rfl

set_option maxRecDepth 100000 in
theorem sh_6 (t : Int) : outXS noneKnown [(139, { br := [(7, false), (11, false), (13, true)] })] Try.prog 139 [AV.val (Value.int IntKind.i64 t)] [] 0 [] [] =
   some (AV.tup [AV.val (Value.int IntKind.i64 (0 : Int)), AV.val (Value.int IntKind.i64 (2 : Int)), AV.val (Value.int IntKind.i64 (20 : Int)), AV.val (Value.bool true)], [], 19,
   ((t == (2 : Int)) = false) ::
   ((t == (5 : Int)) = false) ::
   ((t == (12 : Int)) = false) ::
   ((t == (15 : Int)) = false) ::
   ((t == (6 : Int)) = true) :: []) := by kernel_rfl

set_option maxRecDepth 100000 in
theorem sh_none (t : Int) : outXS noneKnown [(139, { br := [(7, false), (11, false), (13, false)] })] Try.prog 139 [AV.val (Value.int IntKind.i64 t)] [] 0 [] [] =
   some (AV.tup [AV.val (Value.int IntKind.i64 (0 : Int)), AV.val (Value.int IntKind.i64 (0 : Int)), AV.val (Value.int IntKind.i64 (0 : Int)), AV.val (Value.bool false)], [], 19,
   ((t == (2 : Int)) = false) ::
   ((t == (5 : Int)) = false) ::
   ((t == (12 : Int)) = false) ::
   ((t == (15 : Int)) = false) ::
   ((t == (6 : Int)) = false) :: []) := by kernel_rfl
end Go.Proofs.Ytmilcpejchjleaa

/- The reader of messages: pairs, shapes of data; known. -/
namespace Go.Proofs.Ytmilcpejchjleaa
open Go.RowKit
set_option linter.unusedSimpArgs false
set_option linter.unusedVariables false

theorem w32n (n : Nat) (h : n < 4294967296) : IntKind.wrap IntKind.u32 (n : Int) = (n : Int) := by
  simp only [IntKind.wrap, IntKind.bits, IntKind.signed]
  simp
  omega
theorem or8u (k d : Nat) (hk : k < 16777216) (hd : d < 256) : bits BinOp.or IntKind.u32 ((k * 256 : Nat) : Int) (d : Int) = ((k * 256 + d : Nat) : Int) := by
  have e : k * 256 ||| d = k * 256 + d := by
    have := Nat.shiftLeft_add_eq_or_of_lt (i := 8) (b := d) (by omega) k
    rw [Nat.shiftLeft_eq] at this
    exact this.symm
  have e1 : Int.toNat (((k * 256 : Nat) : Int) % 4294967296) = k * 256 := by omega
  have e2 : Int.toNat ((d : Int) % 4294967296) = d := by omega
  have h : bits BinOp.or IntKind.u32 ((k * 256 : Nat) : Int) (d : Int) = IntKind.wrap IntKind.u32 ((Int.toNat (((k * 256 : Nat) : Int) % 4294967296) ||| Int.toNat ((d : Int) % 4294967296) : Nat) : Int) := rfl
  rw [h, e1, e2, e, w32n _ (by omega)]
/-- one byte more -/
theorem num_step (v : Nat) (x : UInt8) (hv : v < 16777216) : bits BinOp.or IntKind.u32 (IntKind.wrap IntKind.u32 ((v : Int) * (256 : Int))) (IntKind.wrap IntKind.u32 (↑(UInt8.toNat x) : Int)) = ((v * 256 + x.toNat : Nat) : Int) := by
  have hx := x.toNat_lt
  have e : ((v : Int) * (256 : Int)) = ((v * 256 : Nat) : Int) := by omega
  rw [e, w32n _ (by omega), w32n _ (by omega), or8u _ _ hv hx]
theorem num_first (x : UInt8) : bits BinOp.or IntKind.u32 (0 : Int) (IntKind.wrap IntKind.u32 (↑(UInt8.toNat x) : Int)) = ((x.toNat : Nat) : Int) := by
  have := num_step 0 x (by omega)
  simp only [Nat.zero_mul, Nat.zero_add] at this
  exact this

theorem len2 {l : List UInt8} (h : l.length = 2) : l = [l.getD 0 0, l.getD 1 0] := by
  match l, h with
  | [x, y], _ => rfl
theorem len4 {l : List UInt8} (h : l.length = 4) : l = [l.getD 0 0, l.getD 1 0, l.getD 2 0, l.getD 3 0] := by
  match l, h with
  | [x, y, z, w], _ => rfl
theorem pr2_lt (b : List UInt8) (a : Nat) (e : Int) : pr2 b a e < 65536 := by
  have h1 := ((rdB b a e 2).getD 0 0).toNat_lt
  have h2 := ((rdB b a e 2).getD 1 0).toNat_lt
  unfold pr2
  omega

theorem rp_call (b : List UInt8) (a : Nat) (e : Int) (hb : b.length ≤ 1000000) (ha : a ≤ b.length) :
    ACall Try.prog 92 [.ptr 0 0 0] [(0, rdr b a e)] 1 (iI (pr2 b a e)) [(0, rdr b (rdA b a e 2) (rdE b a e 2))] 400 := by
  have h := outXS_ok kRbn_ok (rp_run b a e ((rdB b a e 2).getD 0 0) ((rdB b a e 2).getD 1 0)) (by
    repeat' (first | exact allNil | refine allCons ?_ ?_ | (with_reducible refine allRp _ ?_ ?_))
    all_goals first | exact True.intro | omega | exact len2 (rdB_len b a e 2))
  have h1 := ((rdB b a e 2).getD 0 0).toNat_lt
  have h2 := ((rdB b a e 2).getD 1 0).toNat_lt
  rw [num_first, num_step _ _ (by omega)] at h
  have ev : IntKind.wrap IntKind.i64 (((((rdB b a e 2).getD 0 0).toNat * 256 + ((rdB b a e 2).getD 1 0).toNat : Nat) : Int)) = ((pr2 b a e : Nat) : Int) := by
    unfold pr2
    rw [w64 _ (by omega)]
  rw [ev] at h
  exact h.upTo (by decide)
def kRpr : Inl := kMeth 92 399 fun b a e ys =>
  match ys with
  | [] => some (iI (pr2 b a e), rdA b a e 2, rdE b a e 2, [b.length ≤ 1000000, a ≤ b.length])
  | _ => none
theorem kRpr_ok : InlOk Try.prog kRpr := kMeth_ok fun b a e ys v a' e' q hF hq => by
  split at hF
  · simp only [Option.some.injEq, Prod.mk.injEq] at hF
    obtain ⟨rfl, rfl, rfl, rfl⟩ := hF
    simp only [List.forall_mem_cons, List.not_mem_nil, false_implies, implies_true, and_true] at hq
    exact ⟨fun r => rfl, fun r => rfl, 400, by decide, rp_call b a e hq.1 hq.2⟩
  · cases hF

/-- the shape of a type's data: how many bytes, names, bytes; is there one? -/
def shH (t : Int) : Nat := if t = 15 then 2 else 0
def shN (t : Int) : Nat := if t = 2 ∨ t = 5 ∨ t = 12 ∨ t = 15 then 1 else if t = 6 then 2 else 0
def shT (t : Int) : Nat := if t = 6 then 20 else 0
def shO (t : Int) : Bool := decide (t = 2 ∨ t = 5 ∨ t = 12 ∨ t = 15 ∨ t = 6)
theorem sh_call (t : Int) : ACall Try.prog 139 [.val (.int .i64 t)] [] 0 (.tup [iI (shH t), iI (shN t), iI (shT t), .val (.bool (shO t))]) [] 40 := by
  by_cases h2 : t = 2
  · subst h2
    exact (outXS_ok noneKnown_ok (sh_2 2) (by
      repeat' (first | exact allNil | refine allCons ?_ ?_ | (with_reducible refine allRp _ ?_ ?_))
      all_goals rfl)).upTo (by decide)
  by_cases h5 : t = 5
  · subst h5
    exact (outXS_ok noneKnown_ok (sh_5 5) (by
      repeat' (first | exact allNil | refine allCons ?_ ?_ | (with_reducible refine allRp _ ?_ ?_)))).upTo (by decide)
  by_cases h12 : t = 12
  · subst h12
    exact (outXS_ok noneKnown_ok (sh_12 12) (by
      repeat' (first | exact allNil | refine allCons ?_ ?_ | (with_reducible refine allRp _ ?_ ?_)))).upTo (by decide)
  have f2 : (t == 2) = false := beq_eq_false_iff_ne.2 h2
  have f5 : (t == 5) = false := beq_eq_false_iff_ne.2 h5
  have f12 : (t == 12) = false := beq_eq_false_iff_ne.2 h12
  by_cases h15 : t = 15
  · subst h15
    exact (outXS_ok noneKnown_ok (sh_15 15) (by
      repeat' (first | exact allNil | refine allCons ?_ ?_ | (with_reducible refine allRp _ ?_ ?_))
      all_goals rfl)).upTo (by decide)
  have f15 : (t == 15) = false := beq_eq_false_iff_ne.2 h15
  by_cases h6 : t = 6
  · subst h6
    exact (outXS_ok noneKnown_ok (sh_6 6) (by
      repeat' (first | exact allNil | refine allCons ?_ ?_ | (with_reducible refine allRp _ ?_ ?_))
      all_goals rfl)).upTo (by decide)
  have f6 : (t == 6) = false := beq_eq_false_iff_ne.2 h6
  have e1 : shH t = 0 := if_neg h15
  have e2 : shN t = 0 := by unfold shN; rw [if_neg (by omega), if_neg h6]
  have e3 : shT t = 0 := if_neg h6
  have e4 : shO t = false := decide_eq_false (by omega)
  rw [e1, e2, e3, e4]
  exact (outXS_ok noneKnown_ok (sh_none t) (by
    repeat' (first | exact allNil | refine allCons ?_ ?_ | (with_reducible refine allRp _ ?_ ?_))
    all_goals assumption)).upTo (by decide)
def kSh : Inl := kPure 139 fun xs =>
  match xs with
  | [.val (.int .i64 t)] => some (.tup [iI (shH t), iI (shN t), iI (shT t), .val (.bool (shO t))], [])
  | _ => none
theorem kSh_ok : InlOk Try.prog kSh := kPure_ok fun xs v q h hq L nx => by
  split at h
  · rename_i t
    simp only [Option.some.injEq, Prod.mk.injEq] at h
    obtain ⟨rfl, rfl⟩ := h
    exact (sh_call t).liftV (fun r => rfl) (fun r => rfl) L nx
  · cases h
def kRd3 : Inl := orInl kRpr (orInl kSh kRbn)
theorem kRd3_ok : InlOk Try.prog kRd3 := orInl_ok kRpr_ok (orInl_ok kSh_ok kRbn_ok)
end Go.Proofs.Ytmilcpejchjleaa
