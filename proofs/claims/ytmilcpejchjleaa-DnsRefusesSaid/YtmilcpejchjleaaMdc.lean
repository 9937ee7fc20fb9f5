/- Several texts in one: Dc0, DcRun, Dc. -/
import Derived.Test.YtmilcpejchjleaaMdb

/- A message's bytes: words; U16 and U32, question and record. -/
namespace Go.Proofs.Ytmilcpejchjleaa
open Go.RowKit

def be2 (z : Int) : List UInt8 := [UInt8.ofNat (z.toNat / 256), UInt8.ofNat z.toNat]
def be4 (z : Int) : List UInt8 := [UInt8.ofNat (z.toNat / 16777216), UInt8.ofNat (z.toNat / 65536), UInt8.ofNat (z.toNat / 256), UInt8.ofNat z.toNat]
def encQ (q : DQ) : List UInt8 := encL q.name ++ [0] ++ be2 q.ty ++ be2 q.cl
def encR (r : DR) : List UInt8 := encL r.name ++ [0] ++ be2 r.ty ++ be2 r.cl ++ be4 r.ttl ++ be2 (r.data.length : Int) ++ r.data

/-- bytes, wherever they lie; nil too -/
def bytN (H : Heap) : AV → Option (List UInt8 × Prop)
  | .val v => some ([], v = .slice none 0 0)
  | .bytes xs => some (xs, True)
  | .sl id 0 n none =>
    match H id with
    | some ob =>
      match ob.body with
      | .bytes ys => some (ys, ob.sz = 1 ∧ n = ys.length)
      | _ => none
    | none => none
  | _ => none
theorem bytN_frs {H : Heap} {x : AV} {b : List UInt8} {p : Prop} (hx : bytN H x = some (b, p)) (hp : p) : ∃ y, Frs H y (.bytes b) ∧ ∀ E w u, Rep E w x u → Rep E w y u := by
  unfold bytN at hx
  split at hx
  · rename_i v
    simp only [Option.some.injEq, Prod.mk.injEq] at hx
    obtain ⟨rfl, rfl⟩ := hx
    subst hp
    refine ⟨.bytes [], .free fun r => rfl, fun E w u h => ?_⟩
    rw [h.val_inv]
    exact .bytes rfl (Nat.le_refl _) (Nat.zero_le _) (fun h => absurd h (by simp))
  · rename_i xs
    simp only [Option.some.injEq, Prod.mk.injEq] at hx
    obtain ⟨rfl, rfl⟩ := hx
    exact ⟨.bytes xs, .free fun r => rfl, fun E w u h => h⟩
  · rename_i id n
    split at hx
    · rename_i ob hid
      split at hx
      · rename_i ys hb
        simp only [Option.some.injEq, Prod.mk.injEq] at hx
        obtain ⟨rfl, rfl⟩ := hx
        obtain ⟨h1, rfl⟩ := hp
        have hb2 : bytesOf H (.sl id 0 ys.length none) = some ((ys.drop 0).take ys.length, 0 + ys.length ≤ ys.length) := by
          unfold bytesOf
          simp only [hid, hb, h1, if_true]
        have e : (ys.drop 0).take ys.length = ys := by rw [List.drop_zero, List.take_of_length_le (Nat.le_refl _)]
        rw [e] at hb2
        exact ⟨_, .bytes hb2 (by omega), fun E w u h => h⟩
      · cases hx
    · cases hx
  · cases hx

/-- a function of bytes and of one thing more that yields bytes of its own, known -/
def kBytes (f : FuncId) {α : Type} (arg : AV → Option α) (K : List UInt8 → α → Prop) (out : List UInt8 → α → List UInt8) (d : Nat) (same : α → AV → Prop) : Inl := fun g xs L nx =>
  if g = f then
    match xs with
    | [x, y] =>
      match bytN (hp L) x, arg y with
      | some (b, p), some a => if L.all (fun q => decide (q.1 < nx)) = true then some (.sl nx 0 (out b a).length none, (nx, puO (out b a)) :: L, nx + d, [p, same a y, K b a]) else none
      | _, _ => none
    | _ => none
  else none
theorem kBytes_ok {P : Program} {f : FuncId} {α : Type} {arg : AV → Option α} {K : List UInt8 → α → Prop} {out : List UInt8 → α → List UInt8} {d : Nat} {same : α → AV → Prop} {av : α → AV}
    (hs : ∀ a y, same a y → y = av a) (hr : ∀ a (r : Nat → Nat), (av a).ren r = av a) (hd : 1 ≤ d) (hc : ∀ b a, K b a → ACall P f [.bytes b, av a] [] 0 (.sl 0 0 (out b a).length none) [(0, puO (out b a))] d) : InlOk P (kBytes f arg K out d same) := by
  intro g xs L nx v L' nx' q h hq
  unfold kBytes at h
  split at h
  · rename_i hg
    subst hg
    split at h
    · rename_i x y
      split at h
      · rename_i b p a hx hy
        split at h
        · rename_i hlt
          simp only [Option.some.injEq, Prod.mk.injEq] at h
          obtain ⟨rfl, rfl, rfl, rfl⟩ := h
          simp only [List.forall_mem_cons, List.not_mem_nil, false_implies, implies_true, and_true] at hq
          obtain ⟨q1, q2, q3⟩ := hq
          have e := hs a y q2
          subst e
          obtain ⟨x', hf, hrx⟩ := bytN_frs hx q1
          have := (hc b a q3).fresh' (L := L) (nx := nx) (by rfl) (by rfl) (FrsL.cons hf (FrsL.cons (.free (hr a)) FrsL.nil)) hlt
          have h2 : ACall P g [x', av a] L nx (.sl nx 0 (out b a).length none) ((nx, puO (out b a)) :: L) (nx + d) := by
            simpa [AV.ren, renL, renH, puO, objApp, AObj.ren, plus] using this
          refine ⟨h2.args rfl fun E w k a1 a2 u h1 h2 h3 => ?_, by omega⟩
          match k with
          | 0 =>
            simp only [List.getElem?_cons_zero, Option.some.injEq] at h1 h2
            subst h1 h2
            exact hrx _ _ _ h3
          | 1 =>
            simp only [List.getElem?_cons_zero, List.getElem?_cons_succ, Option.some.injEq] at h1 h2
            subst h1 h2
            exact h3
          | k + 2 => simp at h1
        · cases h
      · cases h
    · cases h
  · cases h
def argI : AV → Option Int
  | .val (.int .i64 z) => some z
  | _ => none
def argU : AV → Option Int
  | .val (.int .u32 z) => some z
  | _ => none
def kU16 : Inl := kBytes 97 argI (fun b z => b.length ≤ 1000000 ∧ pairB z = true) (fun b z => b ++ be2 z) 20 (fun z y => y = iI z)
def kU32 : Inl := kBytes 130 argU (fun b z => b.length ≤ 1000000 ∧ 0 ≤ z ∧ z ≤ 4294967295) (fun b z => b ++ be4 z) 30 (fun z y => y = iU z)
/-- Put of a good name behind bytes, known -/
def kPutB : Inl := fun g xs L nx =>
  if g = 42 then
    match xs with
    | [x, y] =>
      match bytN (hp L) x, strsOf (hp L) y with
      | some (b, p), some (ls, p') =>
        if L.all (fun q => decide (q.1 < nx)) = true then
          some (.tup [.sl (3 + nx) 0 (b ++ encL ls ++ [0]).length none, iI 0], (3 + nx, puO (b ++ encL ls ++ [0])) :: L, nx + 6, [p, p', lsK ls, goodN ls = true, b.length ≤ 900000])
        else none
      | _, _ => none
    | _ => none
  else none
theorem args22 {P : Program} {g : FuncId} {x x' y y' : AV} {L L' : List (Nat × AObj)} {nx n1 : Nat} {v : AV} (h : ACall P g [x, y] L nx v L' n1) (hx : ∀ E w u, Rep E w x' u → Rep E w x u) (hy : ∀ E w u, Rep E w y' u → Rep E w y u) : ACall P g [x', y'] L nx v L' n1 :=
  h.argsL (.cons hx (.cons hy .nil))
theorem kPutB_ok : InlOk Try.prog kPutB := by
  intro g xs L nx v L' nx' q h hq
  unfold kPutB at h
  split at h
  · rename_i hg
    subst hg
    split at h
    · rename_i x y
      split at h
      · rename_i b p ls p' hx hy
        split at h
        · rename_i hlt
          simp only [Option.some.injEq, Prod.mk.injEq] at h
          obtain ⟨rfl, rfl, rfl, rfl⟩ := h
          simp only [List.forall_mem_cons, List.not_mem_nil, false_implies, implies_true, and_true] at hq
          obtain ⟨q1, q2, q3, q4, q5⟩ := hq
          obtain ⟨y', hf, hr⟩ := strs_frs hy q2
          obtain ⟨x', hfx, hrx⟩ := bytN_frs hx q1
          have := (put_ok b ls q3 q4 q5).fresh' (L := L) (nx := nx) (by rfl) (by rfl) (FrsL.cons hfx (FrsL.cons hf FrsL.nil)) hlt
          have el : (b ++ encL ls ++ [0]).length = (b ++ encL ls).length + 1 := by simp; omega
          refine ⟨args22 (x := x') (y := y') ?_ hrx hr, by omega⟩
          rw [el]
          simpa [AV.ren, renL, renH, puO, objApp, AObj.ren, plus, iI] using this
        · cases h
      · cases h
    · cases h
  · cases h
def kDq : Inl := orInl kU16 (orInl kU32 kPutB)
end Go.Proofs.Ytmilcpejchjleaa

/- A message's bytes, reckoned: parts. -/
namespace Go.Proofs.Ytmilcpejchjleaa
open Go.RowKit

set_option maxRecDepth 100000 in
theorem u16_c (b : List UInt8) (z : Int) : outXS noneKnown [(97, { ob := [(1, 2), (1, 8), (1, 9)] })] Try.prog 97 [AV.bytes b, AV.val (Value.int IntKind.i64 z)] [] 0 [(10 : Nat)] [] =
   some (AV.sl 10 (0 : Nat) ((0 : Nat) + List.length b + (2 : Nat)) none, [(10, { t := (5 : Nat), sz := (1 : Nat), exact := false, fz := false, body := Body.bytes (b ++ [UInt8.ofNat (Int.toNat (IntKind.wrap IntKind.u8 (Int.fdiv z (256 : Int)))), UInt8.ofNat (Int.toNat (IntKind.wrap IntKind.u8 z))]) })], 12,
   [True,
   (0 : Nat) = (0 : Nat) ∧ (0 : Nat) + List.length b ≤ (1000000000 : Nat),
   ∀ (x : AV), x ∈ [AV.val (Value.int IntKind.u8 (IntKind.wrap IntKind.u8 (Int.fdiv z (256 : Int)))), AV.val (Value.int IntKind.u8 (IntKind.wrap IntKind.u8 z))] → isByteAV x,
   (2 : Nat) ≤ (2 : Nat),
   List.length b = (0 : Nat) + List.length b ∧ (0 : Nat) + List.length b + (2 : Nat) ≤ (1000000000 : Nat)]) := by kernel_rfl

set_option maxRecDepth 100000 in
theorem u32_c (b : List UInt8) (z : Int) : outXS noneKnown [(130, { ob := [(1, 2), (1, 14), (1, 15)] })] Try.prog 130 [AV.bytes b, AV.val (Value.int IntKind.u32 z)] [] 0 [(16 : Nat)] [] =
   some (AV.sl 16 (0 : Nat) ((0 : Nat) + List.length b + (4 : Nat)) none, [(16, { t := (5 : Nat), sz := (1 : Nat), exact := false, fz := false, body := Body.bytes (b ++ [UInt8.ofNat (Int.toNat (IntKind.wrap IntKind.u8 (Int.fdiv z (16777216 : Int)))), UInt8.ofNat (Int.toNat (IntKind.wrap IntKind.u8 (Int.fdiv z (65536 : Int)))), UInt8.ofNat (Int.toNat (IntKind.wrap IntKind.u8 (Int.fdiv z (256 : Int)))), UInt8.ofNat (Int.toNat (IntKind.wrap IntKind.u8 z))]) })], 18,
   [True,
   (0 : Nat) = (0 : Nat) ∧ (0 : Nat) + List.length b ≤ (1000000000 : Nat),
   ∀ (x : AV), x ∈ [AV.val (Value.int IntKind.u8 (IntKind.wrap IntKind.u8 (Int.fdiv z (16777216 : Int)))), AV.val (Value.int IntKind.u8 (IntKind.wrap IntKind.u8 (Int.fdiv z (65536 : Int)))), AV.val (Value.int IntKind.u8 (IntKind.wrap IntKind.u8 (Int.fdiv z (256 : Int)))), AV.val (Value.int IntKind.u8 (IntKind.wrap IntKind.u8 z))] → isByteAV x,
   (4 : Nat) ≤ (4 : Nat),
   List.length b = (0 : Nat) + List.length b ∧ (0 : Nat) + List.length b + (4 : Nat) ≤ (1000000000 : Nat)]) := by kernel_rfl

set_option maxRecDepth 100000 in
theorem qu_c (b : List UInt8) (q : DQ) : outXS kDq [(98, { op := [(2, 3, .keep), (2, 6, .keep)], ob := [(2, 3), (2, 6)] })] Try.prog 98 [AV.bytes b, AV.agg [AV.view (1 : Nat) (List.length q.1) fun i => [AV.val (Value.string { data := List.toArray (List.getD q.1 i []) })], AV.val (Value.int IntKind.i64 q.2), AV.val (Value.int IntKind.i64 q.3)]] [] 0 [(44 : Nat)] [] =
   some (AV.sl 44 (0 : Nat) (List.length (b ++ encL (lsOf (AV.view (1 : Nat) (List.length q.1) fun i => [AV.val (Value.string { data := List.toArray (List.getD q.1 i []) })])) ++ [(0 : UInt8)] ++ be2 q.2 ++ be2 q.3)) none, [(44, { t := (5 : Nat), sz := (1 : Nat), exact := false, fz := false, body := Body.bytes (b ++ encL (lsOf (AV.view (1 : Nat) (List.length q.1) fun i => [AV.val (Value.string { data := List.toArray (List.getD q.1 i []) })])) ++ [(0 : UInt8)] ++ be2 q.2 ++ be2 q.3) })], 64,
   [True,
   (AV.view (1 : Nat) (List.length q.1) fun i => [AV.val (Value.string { data := List.toArray (List.getD q.1 i []) })]) = AV.view (1 : Nat) (List.length (lsOf (AV.view (1 : Nat) (List.length q.1) fun i => [AV.val (Value.string { data := List.toArray (List.getD q.1 i []) })]))) fun i => [AV.val (Value.string { data := List.toArray (List.getD (lsOf (AV.view (1 : Nat) (List.length q.1) fun i => [AV.val (Value.string { data := List.toArray (List.getD q.1 i []) })])) i []) })],
   lsK (lsOf (AV.view (1 : Nat) (List.length q.1) fun i => [AV.val (Value.string { data := List.toArray (List.getD q.1 i []) })])),
   goodN (lsOf (AV.view (1 : Nat) (List.length q.1) fun i => [AV.val (Value.string { data := List.toArray (List.getD q.1 i []) })])) = true,
   List.length b ≤ (900000 : Nat),
   (1 : Nat) = (1 : Nat) ∧ List.length (b ++ encL (lsOf (AV.view (1 : Nat) (List.length q.1) fun i => [AV.val (Value.string { data := List.toArray (List.getD q.1 i []) })])) ++ [(0 : UInt8)]) = List.length (b ++ encL (lsOf (AV.view (1 : Nat) (List.length q.1) fun i => [AV.val (Value.string { data := List.toArray (List.getD q.1 i []) })])) ++ [(0 : UInt8)]),
   AV.val (Value.int IntKind.i64 q.2) = AV.val (Value.int IntKind.i64 q.2),
   List.length (b ++ encL (lsOf (AV.view (1 : Nat) (List.length q.1) fun i => [AV.val (Value.string { data := List.toArray (List.getD q.1 i []) })])) ++ [(0 : UInt8)]) ≤ (1000000 : Nat) ∧ pairB q.2 = true,
   SameO (some { t := (5 : Nat), sz := (1 : Nat), exact := false, fz := false, body := Body.bytes (b ++ encL (lsOf (AV.view (1 : Nat) (List.length q.1) fun i => [AV.val (Value.string { data := List.toArray (List.getD q.1 i []) })])) ++ [(0 : UInt8)]) }) { t := (5 : Nat), sz := (1 : Nat), exact := false, fz := false, body := Body.bytes (b ++ encL (lsOf (AV.view (1 : Nat) (List.length q.1) fun i => [AV.val (Value.string { data := List.toArray (List.getD q.1 i []) })])) ++ [(0 : UInt8)]) },
   (1 : Nat) = (1 : Nat) ∧ List.length (b ++ encL (lsOf (AV.view (1 : Nat) (List.length q.1) fun i => [AV.val (Value.string { data := List.toArray (List.getD q.1 i []) })])) ++ [(0 : UInt8)] ++ be2 q.2) = List.length (b ++ encL (lsOf (AV.view (1 : Nat) (List.length q.1) fun i => [AV.val (Value.string { data := List.toArray (List.getD q.1 i []) })])) ++ [(0 : UInt8)] ++ be2 q.2),
   AV.val (Value.int IntKind.i64 q.3) = AV.val (Value.int IntKind.i64 q.3),
   List.length (b ++ encL (lsOf (AV.view (1 : Nat) (List.length q.1) fun i => [AV.val (Value.string { data := List.toArray (List.getD q.1 i []) })])) ++ [(0 : UInt8)] ++ be2 q.2) ≤ (1000000 : Nat) ∧ pairB q.3 = true,
   SameO (some { t := (5 : Nat), sz := (1 : Nat), exact := false, fz := false, body := Body.bytes (b ++ encL (lsOf (AV.view (1 : Nat) (List.length q.1) fun i => [AV.val (Value.string { data := List.toArray (List.getD q.1 i []) })])) ++ [(0 : UInt8)] ++ be2 q.2) }) { t := (5 : Nat), sz := (1 : Nat), exact := false, fz := false, body := Body.bytes (b ++ encL (lsOf (AV.view (1 : Nat) (List.length q.1) fun i => [AV.val (Value.string { data := List.toArray (List.getD q.1 i []) })])) ++ [(0 : UInt8)] ++ be2 q.2) }]) := by kernel_rfl

set_option maxRecDepth 100000 in
theorem rc_c (b : List UInt8) (q : DR) : outXS kDq [(99, { op := [(2, 3, .keep), (2, 7, .keep)], ob := [(2, 3), (2, 7), (3, 3)] }),
   (98, { op := [(2, 3, .keep), (2, 6, .keep)], ob := [(2, 3), (2, 6)] })] Try.prog 99 [AV.bytes b, AV.agg [AV.view (1 : Nat) (List.length q.1) fun i => [AV.val (Value.string { data := List.toArray (List.getD q.1 i []) })], AV.val (Value.int IntKind.i64 q.2), AV.val (Value.int IntKind.i64 q.3), AV.val (Value.int IntKind.u32 q.4), AV.bytes q.5]] [] 0 [(138 : Nat)] [] =
   some (AV.sl 138 (0 : Nat) (List.length (b ++ encL (lsOf (AV.view (1 : Nat) (List.length q.1) fun i => [AV.val (Value.string { data := List.toArray (List.getD q.1 i []) })])) ++ [(0 : UInt8)] ++ be2 q.2 ++ be2 q.3 ++ be4 q.4 ++ be2 (↑(List.length q.5) : Int)) + List.length q.5) none, [(138, { t := (5 : Nat), sz := (1 : Nat), exact := false, fz := false, body := Body.bytes (b ++ encL (lsOf (AV.view (1 : Nat) (List.length q.1) fun i => [AV.val (Value.string { data := List.toArray (List.getD q.1 i []) })])) ++ [(0 : UInt8)] ++ be2 q.2 ++ be2 q.3 ++ be4 q.4 ++ be2 (↑(List.length q.5) : Int) ++ q.5) })], 140,
   [True,
   (AV.view (1 : Nat) (List.length q.1) fun i => [AV.val (Value.string { data := List.toArray (List.getD q.1 i []) })]) = AV.view (1 : Nat) (List.length (lsOf (AV.view (1 : Nat) (List.length q.1) fun i => [AV.val (Value.string { data := List.toArray (List.getD q.1 i []) })]))) fun i => [AV.val (Value.string { data := List.toArray (List.getD (lsOf (AV.view (1 : Nat) (List.length q.1) fun i => [AV.val (Value.string { data := List.toArray (List.getD q.1 i []) })])) i []) })],
   lsK (lsOf (AV.view (1 : Nat) (List.length q.1) fun i => [AV.val (Value.string { data := List.toArray (List.getD q.1 i []) })])),
   goodN (lsOf (AV.view (1 : Nat) (List.length q.1) fun i => [AV.val (Value.string { data := List.toArray (List.getD q.1 i []) })])) = true,
   List.length b ≤ (900000 : Nat),
   (1 : Nat) = (1 : Nat) ∧ List.length (b ++ encL (lsOf (AV.view (1 : Nat) (List.length q.1) fun i => [AV.val (Value.string { data := List.toArray (List.getD q.1 i []) })])) ++ [(0 : UInt8)]) = List.length (b ++ encL (lsOf (AV.view (1 : Nat) (List.length q.1) fun i => [AV.val (Value.string { data := List.toArray (List.getD q.1 i []) })])) ++ [(0 : UInt8)]),
   AV.val (Value.int IntKind.i64 q.2) = AV.val (Value.int IntKind.i64 q.2),
   List.length (b ++ encL (lsOf (AV.view (1 : Nat) (List.length q.1) fun i => [AV.val (Value.string { data := List.toArray (List.getD q.1 i []) })])) ++ [(0 : UInt8)]) ≤ (1000000 : Nat) ∧ pairB q.2 = true,
   SameO (some { t := (5 : Nat), sz := (1 : Nat), exact := false, fz := false, body := Body.bytes (b ++ encL (lsOf (AV.view (1 : Nat) (List.length q.1) fun i => [AV.val (Value.string { data := List.toArray (List.getD q.1 i []) })])) ++ [(0 : UInt8)]) }) { t := (5 : Nat), sz := (1 : Nat), exact := false, fz := false, body := Body.bytes (b ++ encL (lsOf (AV.view (1 : Nat) (List.length q.1) fun i => [AV.val (Value.string { data := List.toArray (List.getD q.1 i []) })])) ++ [(0 : UInt8)]) },
   (1 : Nat) = (1 : Nat) ∧ List.length (b ++ encL (lsOf (AV.view (1 : Nat) (List.length q.1) fun i => [AV.val (Value.string { data := List.toArray (List.getD q.1 i []) })])) ++ [(0 : UInt8)] ++ be2 q.2) = List.length (b ++ encL (lsOf (AV.view (1 : Nat) (List.length q.1) fun i => [AV.val (Value.string { data := List.toArray (List.getD q.1 i []) })])) ++ [(0 : UInt8)] ++ be2 q.2),
   AV.val (Value.int IntKind.i64 q.3) = AV.val (Value.int IntKind.i64 q.3),
   List.length (b ++ encL (lsOf (AV.view (1 : Nat) (List.length q.1) fun i => [AV.val (Value.string { data := List.toArray (List.getD q.1 i []) })])) ++ [(0 : UInt8)] ++ be2 q.2) ≤ (1000000 : Nat) ∧ pairB q.3 = true,
   SameO (some { t := (5 : Nat), sz := (1 : Nat), exact := false, fz := false, body := Body.bytes (b ++ encL (lsOf (AV.view (1 : Nat) (List.length q.1) fun i => [AV.val (Value.string { data := List.toArray (List.getD q.1 i []) })])) ++ [(0 : UInt8)] ++ be2 q.2) }) { t := (5 : Nat), sz := (1 : Nat), exact := false, fz := false, body := Body.bytes (b ++ encL (lsOf (AV.view (1 : Nat) (List.length q.1) fun i => [AV.val (Value.string { data := List.toArray (List.getD q.1 i []) })])) ++ [(0 : UInt8)] ++ be2 q.2) },
   (1 : Nat) = (1 : Nat) ∧ List.length (b ++ encL (lsOf (AV.view (1 : Nat) (List.length q.1) fun i => [AV.val (Value.string { data := List.toArray (List.getD q.1 i []) })])) ++ [(0 : UInt8)] ++ be2 q.2 ++ be2 q.3) = List.length (b ++ encL (lsOf (AV.view (1 : Nat) (List.length q.1) fun i => [AV.val (Value.string { data := List.toArray (List.getD q.1 i []) })])) ++ [(0 : UInt8)] ++ be2 q.2 ++ be2 q.3),
   AV.val (Value.int IntKind.u32 q.4) = AV.val (Value.int IntKind.u32 q.4),
   List.length (b ++ encL (lsOf (AV.view (1 : Nat) (List.length q.1) fun i => [AV.val (Value.string { data := List.toArray (List.getD q.1 i []) })])) ++ [(0 : UInt8)] ++ be2 q.2 ++ be2 q.3) ≤ (1000000 : Nat) ∧ (0 : Int) ≤ q.4 ∧ q.4 ≤ (4294967295 : Int),
   SameO (some { t := (5 : Nat), sz := (1 : Nat), exact := false, fz := false, body := Body.bytes (b ++ encL (lsOf (AV.view (1 : Nat) (List.length q.1) fun i => [AV.val (Value.string { data := List.toArray (List.getD q.1 i []) })])) ++ [(0 : UInt8)] ++ be2 q.2 ++ be2 q.3) }) { t := (5 : Nat), sz := (1 : Nat), exact := false, fz := false, body := Body.bytes (b ++ encL (lsOf (AV.view (1 : Nat) (List.length q.1) fun i => [AV.val (Value.string { data := List.toArray (List.getD q.1 i []) })])) ++ [(0 : UInt8)] ++ be2 q.2 ++ be2 q.3) },
   (1 : Nat) = (1 : Nat) ∧ List.length (b ++ encL (lsOf (AV.view (1 : Nat) (List.length q.1) fun i => [AV.val (Value.string { data := List.toArray (List.getD q.1 i []) })])) ++ [(0 : UInt8)] ++ be2 q.2 ++ be2 q.3 ++ be4 q.4) = List.length (b ++ encL (lsOf (AV.view (1 : Nat) (List.length q.1) fun i => [AV.val (Value.string { data := List.toArray (List.getD q.1 i []) })])) ++ [(0 : UInt8)] ++ be2 q.2 ++ be2 q.3 ++ be4 q.4),
   AV.val (Value.int IntKind.i64 (↑(List.length q.5) : Int)) = AV.val (Value.int IntKind.i64 (↑(List.length q.5) : Int)),
   List.length (b ++ encL (lsOf (AV.view (1 : Nat) (List.length q.1) fun i => [AV.val (Value.string { data := List.toArray (List.getD q.1 i []) })])) ++ [(0 : UInt8)] ++ be2 q.2 ++ be2 q.3 ++ be4 q.4) ≤ (1000000 : Nat) ∧ pairB (↑(List.length q.5) : Int) = true,
   SameO (some { t := (5 : Nat), sz := (1 : Nat), exact := false, fz := false, body := Body.bytes (b ++ encL (lsOf (AV.view (1 : Nat) (List.length q.1) fun i => [AV.val (Value.string { data := List.toArray (List.getD q.1 i []) })])) ++ [(0 : UInt8)] ++ be2 q.2 ++ be2 q.3 ++ be4 q.4) }) { t := (5 : Nat), sz := (1 : Nat), exact := false, fz := false, body := Body.bytes (b ++ encL (lsOf (AV.view (1 : Nat) (List.length q.1) fun i => [AV.val (Value.string { data := List.toArray (List.getD q.1 i []) })])) ++ [(0 : UInt8)] ++ be2 q.2 ++ be2 q.3 ++ be4 q.4) },
   True,
   List.length (b ++ encL (lsOf (AV.view (1 : Nat) (List.length q.1) fun i => [AV.val (Value.string { data := List.toArray (List.getD q.1 i []) })])) ++ [(0 : UInt8)] ++ be2 q.2 ++ be2 q.3 ++ be4 q.4 ++ be2 (↑(List.length q.5) : Int)) = List.length (b ++ encL (lsOf (AV.view (1 : Nat) (List.length q.1) fun i => [AV.val (Value.string { data := List.toArray (List.getD q.1 i []) })])) ++ [(0 : UInt8)] ++ be2 q.2 ++ be2 q.3 ++ be4 q.4 ++ be2 (↑(List.length q.5) : Int)) ∧ List.length (b ++ encL (lsOf (AV.view (1 : Nat) (List.length q.1) fun i => [AV.val (Value.string { data := List.toArray (List.getD q.1 i []) })])) ++ [(0 : UInt8)] ++ be2 q.2 ++ be2 q.3 ++ be4 q.4 ++ be2 (↑(List.length q.5) : Int)) + List.length q.5 ≤ (1000000000 : Nat)]) := by kernel_rfl
end Go.Proofs.Ytmilcpejchjleaa

/- A message's bytes: what U16, U32, question and record yield. -/
namespace Go.Proofs.Ytmilcpejchjleaa
open Go.RowKit
set_option linter.unusedSimpArgs false
set_option linter.unusedVariables false

theorem pairB_iff {z : Int} (h : pairB z = true) : 0 ≤ z ∧ z ≤ 65535 := by
  unfold pairB at h
  simpa using h
theorem fdivP (z k : Int) (h : 0 ≤ k) : Int.fdiv z k = z / k := Int.fdiv_eq_ediv_of_nonneg z h
theorem byT (z : Int) (h : 0 ≤ z) : UInt8.ofNat (Int.toNat (IntKind.wrap IntKind.u8 z)) = UInt8.ofNat z.toNat := by
  rw [wu8]
  obtain ⟨n, rfl⟩ : ∃ n : Nat, z = n := ⟨z.toNat, by omega⟩
  have e : Int.toNat ((n : Int) % 256) = n % 256 := by omega
  rw [e, Int.toNat_natCast]
  apply UInt8.toNat_inj.1
  simp
theorem be2_raw (z : Int) (h : 0 ≤ z ∧ z ≤ 65535) : [UInt8.ofNat (Int.toNat (IntKind.wrap IntKind.u8 (Int.fdiv z (256 : Int)))), UInt8.ofNat (Int.toNat (IntKind.wrap IntKind.u8 z))] = be2 z := by
  rw [fdivP _ _ (by decide), byT _ (by omega), byT _ h.1]
  unfold be2
  have e : Int.toNat (z / 256) = z.toNat / 256 := by omega
  rw [e]
theorem be4_raw (z : Int) (h : 0 ≤ z) : [UInt8.ofNat (Int.toNat (IntKind.wrap IntKind.u8 (Int.fdiv z (16777216 : Int)))), UInt8.ofNat (Int.toNat (IntKind.wrap IntKind.u8 (Int.fdiv z (65536 : Int)))), UInt8.ofNat (Int.toNat (IntKind.wrap IntKind.u8 (Int.fdiv z (256 : Int)))), UInt8.ofNat (Int.toNat (IntKind.wrap IntKind.u8 z))] = be4 z := by
  rw [fdivP _ _ (by decide), fdivP _ _ (by decide), fdivP _ _ (by decide), byT _ (by omega), byT _ (by omega), byT _ (by omega), byT _ h]
  unfold be4
  have e1 : Int.toNat (z / 16777216) = z.toNat / 16777216 := by omega
  have e2 : Int.toNat (z / 65536) = z.toNat / 65536 := by omega
  have e3 : Int.toNat (z / 256) = z.toNat / 256 := by omega
  rw [e1, e2, e3]
theorem wrap_byte (z : Int) : isByteAV (AV.val (Value.int IntKind.u8 (IntKind.wrap IntKind.u8 z))) := ⟨by rw [wu8]; omega, by rw [wu8]; omega⟩

/-- one object of bytes, numbered 0 -/
theorem ACall.toB {P : Program} {g : FuncId} {xs : List AV} {k n n1 : Nat} {ys zs : List UInt8} (h : ACall P g xs [] 0 (.sl k 0 n none) [(k, ⟨5, 1, false, false, .bytes ys⟩)] n1) (hk : k < n1) (he : ys = zs) (hn : n = zs.length) (m : Nat) (hm : 1 ≤ m) :
    ACall P g xs [] 0 (.sl 0 0 zs.length none) [(0, puO zs)] m := by
  subst he hn
  refine (h.renew (v' := .sl 0 0 ys.length none) (L2 := [(0, puO ys)]) [k] (Nat.zero_le _) (by simp) (fun x hx => by rw [List.mem_singleton.1 hx]; omega) (by simp [AV.ren, renX]) fun i x hx => ?_).upTo (by simpa using hm)
  simp only [hp] at hx
  split at hx
  · rename_i e
    injection hx with hx
    subst hx
    have e0 : i = 0 := e
    subst e0
    simp [hp, renX, puO, objApp, AObj.ren]
  · cases hx

theorem u16_call (b : List UInt8) (z : Int) (h : b.length ≤ 1000000 ∧ pairB z = true) : ACall Try.prog 97 [.bytes b, iI z] [] 0 (.sl 0 0 (b ++ be2 z).length none) [(0, puO (b ++ be2 z))] 20 := by
  have hz := pairB_iff h.2
  have hl := h.1
  have hh := outXS_ok noneKnown_ok (u16_c b z) (by
    repeat' (first | exact allNil | refine allCons ?_ ?_ | (with_reducible refine allRp _ ?_ ?_))
    all_goals first | (with_reducible rfl) | exact True.intro | omega | exact ⟨rfl, by omega⟩ | exact ⟨by omega, by omega⟩ | (intro x hx; simp only [List.mem_cons, List.not_mem_nil, or_false] at hx; rcases hx with rfl | rfl <;> exact wrap_byte _))
  exact hh.toB (by decide) (by rw [← be2_raw z hz]) (by simp [be2]) 20 (by decide)
theorem kU16_ok : InlOk Try.prog kU16 := kBytes_ok (av := iI) (fun a y h => h) (fun a r => rfl) (by decide) (fun b z h => u16_call b z h)
theorem u32_call (b : List UInt8) (z : Int) (h : b.length ≤ 1000000 ∧ 0 ≤ z ∧ z ≤ 4294967295) : ACall Try.prog 130 [.bytes b, iU z] [] 0 (.sl 0 0 (b ++ be4 z).length none) [(0, puO (b ++ be4 z))] 30 := by
  have hl := h.1
  have hh := outXS_ok noneKnown_ok (u32_c b z) (by
    repeat' (first | exact allNil | refine allCons ?_ ?_ | (with_reducible refine allRp _ ?_ ?_))
    all_goals first | (with_reducible rfl) | exact True.intro | omega | exact ⟨rfl, by omega⟩ | exact ⟨by omega, by omega⟩ | (intro x hx; simp only [List.mem_cons, List.not_mem_nil, or_false] at hx; rcases hx with rfl | rfl | rfl | rfl <;> exact wrap_byte _))
  exact hh.toB (by decide) (by rw [← be4_raw z h.2.1]) (by simp [be4]) 30 (by decide)
theorem kU32_ok : InlOk Try.prog kU32 := kBytes_ok (av := iU) (fun a y h => h) (fun a r => rfl) (by decide) (fun b z h => u32_call b z h)
theorem kDq_ok : InlOk Try.prog kDq := orInl_ok kU16_ok (orInl_ok kU32_ok kPutB_ok)

theorem encL_good {ls : List (List UInt8)} (h : goodN ls = true) : (encL ls).length ≤ 254 := by
  have := (goodF_enc 1 ls h (by decide)).1
  omega
theorem be2_len (z : Int) : (be2 z).length = 2 := rfl
theorem be4_len (z : Int) : (be4 z).length = 4 := rfl

theorem qu_call (b : List UInt8) (q : DQ) (hb : b.length ≤ 800000) (hk : lsK q.name) (hq : qOk q = true) :
    ACall Try.prog 98 [.bytes b, .agg [vS q.name, iI q.ty, iI q.cl]] [] 0 (.sl 0 0 (b ++ encQ q).length none) [(0, puO (b ++ encQ q))] 100 := by
  unfold qOk at hq
  simp only [Bool.and_eq_true] at hq
  obtain ⟨⟨h1, h2⟩, h3⟩ := hq
  have he := encL_good h3
  have en := lsOf_vS q.name
  unfold vS sStr at en
  have l1 : (b ++ encL q.name ++ [0]).length ≤ 1000000 := by simp; omega
  have l2 : (b ++ encL q.name ++ [0] ++ be2 q.ty).length ≤ 1000000 := by simp [be2_len]; omega
  have hh := outXS_ok kDq_ok (qu_c b q) (by
    simp only [en]
    repeat' (first | exact allNil | refine allCons ?_ ?_ | (with_reducible refine allRp _ ?_ ?_))
    all_goals first | (with_reducible rfl) | exact True.intro | exact hk | exact h3 | omega | exact ⟨l1, h1⟩ | exact ⟨l2, h2⟩ | exact ⟨rfl, rfl⟩ | exact ⟨True.intro, rfl⟩ | exact ⟨True.intro, True.intro⟩ | exact rfl)
  simp only [en] at hh
  exact hh.toB (by decide) (by simp [encQ]) (by simp [encQ]) 100 (by decide)

theorem rc_call (b : List UInt8) (q : DR) (hb : b.length ≤ 800000) (hk : lsK q.name) (hq : rOk q = true) (ht : 0 ≤ q.ttl ∧ q.ttl ≤ 4294967295) :
    ACall Try.prog 99 [.bytes b, .agg [vS q.name, iI q.ty, iI q.cl, iU q.ttl, .bytes q.data]] [] 0 (.sl 0 0 (b ++ encR q).length none) [(0, puO (b ++ encR q))] 200 := by
  unfold rOk at hq
  simp only [Bool.and_eq_true, decide_eq_true_eq] at hq
  obtain ⟨⟨⟨h1, h2⟩, h3⟩, h4⟩ := hq
  have he := encL_good h3
  have en := lsOf_vS q.name
  unfold vS sStr at en
  have l1 : (b ++ encL q.name ++ [0]).length ≤ 1000000 := by simp; omega
  have l2 : (b ++ encL q.name ++ [0] ++ be2 q.ty).length ≤ 1000000 := by simp [be2_len]; omega
  have l3 : (b ++ encL q.name ++ [0] ++ be2 q.ty ++ be2 q.cl).length ≤ 1000000 := by simp [be2_len]; omega
  have l4 : (b ++ encL q.name ++ [0] ++ be2 q.ty ++ be2 q.cl ++ be4 q.ttl).length ≤ 1000000 := by simp [be2_len, be4_len]; omega
  have l5 : (b ++ encL q.name ++ [0] ++ be2 q.ty ++ be2 q.cl ++ be4 q.ttl ++ be2 (q.data.length : Int)).length + q.data.length ≤ 1000000000 := by simp [be2_len, be4_len]; omega
  have h5 : pairB (q.data.length : Int) = true := by
    unfold pairB
    rw [decide_eq_true (by omega : (0 : Int) ≤ (q.data.length : Int)), decide_eq_true (by omega : (q.data.length : Int) ≤ 65535)]
    rfl
  have hh := outXS_ok kDq_ok (rc_c b q) (by
    simp only [en]
    repeat' (first | exact allNil | refine allCons ?_ ?_ | (with_reducible refine allRp _ ?_ ?_))
    all_goals first | (with_reducible rfl) | exact True.intro | exact hk | exact h3 | omega | exact ⟨l1, h1⟩ | exact ⟨l2, h2⟩ | exact ⟨l3, ht⟩ | exact ⟨l4, h5⟩ | exact ⟨rfl, rfl⟩ | exact ⟨True.intro, rfl⟩ | exact ⟨True.intro, True.intro⟩ | exact ⟨rfl, l5⟩ | exact ⟨True.intro, l5⟩ | exact rfl)
  simp only [en] at hh
  exact hh.toB (by decide) (by simp [encR]) (by simp [encR]; omega) 200 (by decide)
end Go.Proofs.Ytmilcpejchjleaa
