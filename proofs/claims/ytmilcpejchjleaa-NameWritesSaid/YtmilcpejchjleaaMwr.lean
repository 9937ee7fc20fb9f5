/- Several texts in one: Pg, WrRun, WrLaw. -/
import Derived.Test.YtmilcpejchjleaaMqg
import Derived.Test.YtmilcpejchjleaaMnr

/- Put, Good and long, known wherever lists and bytes lie. -/
namespace Go.Proofs.Ytmilcpejchjleaa
open Go.RowKit
set_option linter.unusedSimpArgs false

/-- Put, known: refused, or written -/
def kPutN (bad : Bool) : Inl := fun g xs L nx =>
  if g = 42 then
    match xs with
    | [x, y] =>
      match bytesOf (hp L) x, strsOf (hp L) y with
      | some (b, p), some (ls, p') =>
        if L.all (fun q => decide (q.1 < nx)) = true then
          if bad then some (.tup [nilS, iI 1], L, nx + 7, [p, p', lsK ls, goodN ls = false])
          else some (.tup [.sl (3 + nx) 0 ((b ++ encL ls).length + 1) none, iI 0], (3 + nx, puO (b ++ encL ls ++ [0])) :: L, nx + 6, [p, p', lsK ls, goodN ls = true, b.length ≤ 900000])
        else none
      | _, _ => none
    | _ => none
  else none

theorem args2 {P : Program} {g : FuncId} {x y y' : AV} {L L' : List (Nat × AObj)} {nx n1 : Nat} {v : AV} (h : ACall P g [x, y] L nx v L' n1) (hr : ∀ E w u, Rep E w y' u → Rep E w y u) : ACall P g [x, y'] L nx v L' n1 :=
  h.args rfl fun E w k a a' u h1 h2 h3 => by
    match k with
    | 0 =>
      simp only [List.getElem?_cons_zero, Option.some.injEq] at h1 h2
      subst h1 h2
      exact h3
    | 1 =>
      simp only [List.getElem?_cons_zero, List.getElem?_cons_succ, Option.some.injEq] at h1 h2
      subst h1 h2
      exact hr _ _ _ h3
    | k + 2 => simp at h1

theorem kPutN_ok (bad : Bool) : InlOk Try.prog (kPutN bad) := by
  intro g xs L nx v L' nx' q h hq
  unfold kPutN at h
  split at h
  · rename_i hg
    subst hg
    split at h
    · rename_i x y
      split at h
      · rename_i b p ls p' hx hy
        split at h
        · rename_i hlt
          split at h
          · simp only [Option.some.injEq, Prod.mk.injEq] at h
            obtain ⟨rfl, rfl, rfl, rfl⟩ := h
            simp only [List.forall_mem_cons, List.not_mem_nil, false_implies, implies_true, and_true] at hq
            obtain ⟨q1, q2, q3, q4⟩ := hq
            obtain ⟨y', hf, hr⟩ := strs_frs hy q2
            have := (put_bad b ls q3 q4).fresh' (L := L) (nx := nx) (by rfl) (by rfl) (FrsL.cons (Frs.bytes hx q1) (FrsL.cons hf FrsL.nil)) hlt
            exact ⟨args2 this hr, by omega⟩
          · simp only [Option.some.injEq, Prod.mk.injEq] at h
            obtain ⟨rfl, rfl, rfl, rfl⟩ := h
            simp only [List.forall_mem_cons, List.not_mem_nil, false_implies, implies_true, and_true] at hq
            obtain ⟨q1, q2, q3, q4, q5⟩ := hq
            obtain ⟨y', hf, hr⟩ := strs_frs hy q2
            have := (put_ok b ls q3 q4 q5).fresh' (L := L) (nx := nx) (by rfl) (by rfl) (FrsL.cons (Frs.bytes hx q1) (FrsL.cons hf FrsL.nil)) hlt
            refine ⟨args2 (x := x) (y := y') ?_ hr, by omega⟩
            simpa [AV.ren, renL, renH, puO, objApp, AObj.ren, plus, iI] using this
        · cases h
      · cases h
    · cases h
  · cases h

def kRPut : Inl := fun g xs L nx =>
  if g = 50 then
    match xs with
    | [x, y] =>
      match bytesOf (hp L) x, strsOf (hp L) y with
      | some (b, p), some (ls, p') =>
        if L.all (fun q => decide (q.1 < nx)) = true then
          some (.sl (3 + nx) 0 ((b ++ encL ls).length + 1) none, (3 + nx, puO (b ++ encL ls ++ [0])) :: L, nx + 5, [p, p', lsK ls, goodN ls = true, b.length ≤ 900000])
        else none
      | _, _ => none
    | _ => none
  else none
theorem kRPut_ok : InlOk Try.prog kRPut := by
  intro g xs L nx v L' nx' q h hq
  unfold kRPut at h
  split at h
  · rename_i hg
    subst hg
    split at h
    · rename_i x y
      split at h
      · rename_i b p ls p' hx hy
        split at h
        · rename_i hlt
          simp only [Option.some.injEq, Prod.mk.injEq] at h
          obtain ⟨rfl, rfl, rfl, rfl⟩ := h
          simp only [List.forall_mem_cons, List.not_mem_nil, false_implies, implies_true, and_true] at hq
          obtain ⟨q1, q2, q3, q4, q5⟩ := hq
          obtain ⟨y', hf, hr⟩ := strs_frs hy q2
          have := (rput_ok b ls q3 q4 q5).fresh' (L := L) (nx := nx) (by rfl) (by rfl) (FrsL.cons (Frs.bytes hx q1) (FrsL.cons hf FrsL.nil)) hlt
          refine ⟨args2 (x := x) (y := y') ?_ hr, by omega⟩
          simpa [AV.ren, renL, renH, puO, objApp, AObj.ren, plus, iI] using this
        · cases h
      · cases h
    · cases h
  · cases h

def kGoodP : Inl := kPlain 49 (fun ls => .bool (goodN ls)) lsK
theorem kGoodP_ok : InlOk Try.prog kGoodP := kPlain_ok fun ls h => good_call ls h.1 h.2 [] 0
def kRGood : Inl := kPlain 48 (fun ls => .bool (goodN ls)) fun _ => True
theorem kRGood_ok : InlOk Try.prog kRGood := kPlain_ok fun ls _ => rgood_call ls [] 0
def kLong : Inl := kPlain 47 (fun ls => .bool (longN ls)) fun _ => True
theorem kLong_ok : InlOk Try.prog kLong := kPlain_ok fun ls _ => long_call ls [] 0
def kW (bad : Bool) (way : Nat) : Inl := orInl (kPutN bad) (orInl kRPut (orInl kGoodP (orInl kRGood (orInl kLong (kR way)))))
theorem kW_ok (bad : Bool) (way : Nat) : InlOk Try.prog (kW bad way) := orInl_ok (kPutN_ok bad) (orInl_ok kRPut_ok (orInl_ok kGoodP_ok (orInl_ok kRGood_ok (orInl_ok kLong_ok (kR_ok way)))))
def kW0 : Inl := kW true 0
def kW1 : Inl := kW false 1
def kW2 : Inl := kW false 2
theorem longN_k {ls : List (List UInt8)} (h : longN ls = false) : ls.length ≤ 200 ∧ ∀ s ∈ ls, s.length ≤ 300 := by
  unfold longN longR at h
  simp only [Bool.or_eq_false_iff, decide_eq_false_iff_not, List.any_eq_false, decide_eq_true_eq] at h
  exact ⟨by omega, fun s hs => by have := h.2 s hs; omega⟩
theorem lsK_of {ls : List (List UInt8)} (h : longN ls = false) : lsK ls := by
  obtain ⟨h1, h2⟩ := longN_k h
  refine ⟨by omega, fun i => ?_⟩
  rw [List.getD_eq_getElem?_getD]
  by_cases hi : i < ls.length
  · rw [List.getElem?_eq_getElem hi, Option.getD_some]
    have := h2 _ (List.getElem_mem hi)
    omega
  · rw [List.getElem?_eq_none (by omega)]
    simp

/-- what was written is read -/
theorem getW_enc (b q : List UInt8) (ls : List (List UInt8)) (hg : goodN ls = true) : getW (b ++ (encL ls ++ 0 :: q)) (b.length : Int) = (ls, ((b.length + (encL ls).length + 1 : Nat) : Int), 0) := by
  have hc : ls.length ≤ 130 := by
    rcases goodF_count 1 ls hg with h | h
    · omega
    · subst h; simp
  unfold getW
  rw [if_neg (by omega), Int.toNat_natCast]
  obtain ⟨k, hk⟩ : ∃ k, 400 = (k + 1) + ls.length := ⟨399 - ls.length, by omega⟩
  rw [hk, getF_enc ls b (0 :: q) (k + 1) (-1) 0 0 [] hg, getF]
  have h0 : ((b ++ (encL ls ++ 0 :: q)).getD (b.length + (encL ls).length) 0).toNat = 0 := by
    have := getD_mid (b ++ encL ls) [0] q 0 (by simp)
    simp only [List.length_append, List.append_assoc, Nat.add_zero, List.singleton_append] at this
    rw [this]
    rfl
  have hl : (b ++ (encL ls ++ 0 :: q)).length = b.length + (encL ls).length + 1 + q.length := by simp; omega
  rw [h0, hl, if_neg (by omega), if_pos rfl]
  simp [nextP]
theorem getW_put (b : List UInt8) (ls : List (List UInt8)) (hg : goodN ls = true) : getW (b ++ encL ls ++ [0]) (b.length : Int) = (ls, ((b ++ encL ls ++ [0]).length : Int), 0) := by
  rw [List.append_assoc, getW_enc b [] ls hg]
  simp; omega
end Go.Proofs.Ytmilcpejchjleaa

/- A name that is written: the law, reckoned. -/
namespace Go.Proofs.Ytmilcpejchjleaa
open Go.RowKit

set_option maxRecDepth 100000 in
theorem wr_long1 (b : List UInt8) (ls : List (List UInt8)) : outXS kW0 [(12, { op := [(3, 6, .br true)], gd := [(3, 4, true), (3, 5, true)] })] Try.prog 12 [AV.bytes b, AV.view (1 : Nat) (List.length ls) fun i => [AV.val (Value.string { data := List.toArray (List.getD ls i []) })]] [] 0 [] [] =
   some (AV.val (Value.bool true), [], 11,
   [decide ((↑(List.length b) : Int) > (300 : Int)) = true,
   decide ((↑(List.length b) : Int) > (300 : Int)) = true,
   decide ((↑(List.length b) : Int) > (300 : Int)) = true]) := by kernel_rfl

set_option maxRecDepth 100000 in
theorem wr_long2 (b : List UInt8) (ls : List (List UInt8)) : outXS kW0 [(12, { op := [(3, 6, .br false)], gd := [(3, 4, false), (3, 5, false)], br := [(19, true)] })] Try.prog 12 [AV.bytes b, AV.view (1 : Nat) (List.length ls) fun i => [AV.val (Value.string { data := List.toArray (List.getD ls i []) })]] [] 0 [] [] =
   some (AV.val (Value.bool true), [], 11,
   [decide ((↑(List.length b) : Int) > (300 : Int)) = false,
   decide ((↑(List.length b) : Int) > (300 : Int)) = false,
   (AV.view (1 : Nat) (List.length ls) fun i => [AV.val (Value.string { data := List.toArray (List.getD ls i []) })]) = AV.view (1 : Nat) (List.length (lsOf (AV.view (1 : Nat) (List.length ls) fun i => [AV.val (Value.string { data := List.toArray (List.getD ls i []) })]))) fun i => [AV.val (Value.string { data := List.toArray (List.getD (lsOf (AV.view (1 : Nat) (List.length ls) fun i => [AV.val (Value.string { data := List.toArray (List.getD ls i []) })])) i []) })],
   True,
   decide ((↑(List.length b) : Int) > (300 : Int)) = false,
   longN (lsOf (AV.view (1 : Nat) (List.length ls) fun i => [AV.val (Value.string { data := List.toArray (List.getD ls i []) })])) = true]) := by kernel_rfl

set_option maxRecDepth 100000 in
theorem wr_bad (b : List UInt8) (ls : List (List UInt8)) : outXS kW0 [(12, { op := [(3, 6, .br false), (7, 9, .br false), (7, 13, .br false), (8, 7, .br true)], gd := [(3, 4, false), (3, 5, false), (7, 5, false), (7, 6, false), (7, 7, false), (7, 8, false), (7, 11, false), (7, 12, false), (8, 5, true), (8, 6, true)], br := [(19, false), (43, true)], ob := [(6, 2), (6, 4)] })] Try.prog 12 [AV.bytes b, AV.view (1 : Nat) (List.length ls) fun i => [AV.val (Value.string { data := List.toArray (List.getD ls i []) })]] [] 0 [] [] =
   some (AV.val (Value.bool true), [], 58,
   [decide ((↑(List.length b) : Int) > (300 : Int)) = false,
   decide ((↑(List.length b) : Int) > (300 : Int)) = false,
   (AV.view (1 : Nat) (List.length ls) fun i => [AV.val (Value.string { data := List.toArray (List.getD ls i []) })]) = AV.view (1 : Nat) (List.length (lsOf (AV.view (1 : Nat) (List.length ls) fun i => [AV.val (Value.string { data := List.toArray (List.getD ls i []) })]))) fun i => [AV.val (Value.string { data := List.toArray (List.getD (lsOf (AV.view (1 : Nat) (List.length ls) fun i => [AV.val (Value.string { data := List.toArray (List.getD ls i []) })])) i []) })],
   True,
   decide ((↑(List.length b) : Int) > (300 : Int)) = false,
   longN (lsOf (AV.view (1 : Nat) (List.length ls) fun i => [AV.val (Value.string { data := List.toArray (List.getD ls i []) })])) = false,
   (AV.view (1 : Nat) (List.length ls) fun i => [AV.val (Value.string { data := List.toArray (List.getD ls i []) })]) = AV.view (1 : Nat) (List.length (lsOf (AV.view (1 : Nat) (List.length ls) fun i => [AV.val (Value.string { data := List.toArray (List.getD ls i []) })]))) fun i => [AV.val (Value.string { data := List.toArray (List.getD (lsOf (AV.view (1 : Nat) (List.length ls) fun i => [AV.val (Value.string { data := List.toArray (List.getD ls i []) })])) i []) })],
   True,
   True,
   (0 : Nat) = (0 : Nat) ∧ (0 : Nat) + List.length b ≤ (1000000000 : Nat),
   (0 : Nat) + ((0 : Nat) + List.length b) ≤ List.length b,
   (AV.view (1 : Nat) (List.length ls) fun i => [AV.val (Value.string { data := List.toArray (List.getD ls i []) })]) = AV.view (1 : Nat) (List.length (lsOf (AV.view (1 : Nat) (List.length ls) fun i => [AV.val (Value.string { data := List.toArray (List.getD ls i []) })]))) fun i => [AV.val (Value.string { data := List.toArray (List.getD (lsOf (AV.view (1 : Nat) (List.length ls) fun i => [AV.val (Value.string { data := List.toArray (List.getD ls i []) })])) i []) })],
   lsK (lsOf (AV.view (1 : Nat) (List.length ls) fun i => [AV.val (Value.string { data := List.toArray (List.getD ls i []) })])),
   goodN (lsOf (AV.view (1 : Nat) (List.length ls) fun i => [AV.val (Value.string { data := List.toArray (List.getD ls i []) })])) = false,
   (AV.view (1 : Nat) (List.length ls) fun i => [AV.val (Value.string { data := List.toArray (List.getD ls i []) })]) = AV.view (1 : Nat) (List.length (lsOf (AV.view (1 : Nat) (List.length ls) fun i => [AV.val (Value.string { data := List.toArray (List.getD ls i []) })]))) fun i => [AV.val (Value.string { data := List.toArray (List.getD (lsOf (AV.view (1 : Nat) (List.length ls) fun i => [AV.val (Value.string { data := List.toArray (List.getD ls i []) })])) i []) })],
   lsK (lsOf (AV.view (1 : Nat) (List.length ls) fun i => [AV.val (Value.string { data := List.toArray (List.getD ls i []) })])),
   (!goodN (lsOf (AV.view (1 : Nat) (List.length ls) fun i => [AV.val (Value.string { data := List.toArray (List.getD ls i []) })])) == goodN (lsOf (AV.view (1 : Nat) (List.length ls) fun i => [AV.val (Value.string { data := List.toArray (List.getD ls i []) })]))) = false,
   (!goodN (lsOf (AV.view (1 : Nat) (List.length ls) fun i => [AV.val (Value.string { data := List.toArray (List.getD ls i []) })])) == goodN (lsOf (AV.view (1 : Nat) (List.length ls) fun i => [AV.val (Value.string { data := List.toArray (List.getD ls i []) })]))) = false,
   (!goodN (lsOf (AV.view (1 : Nat) (List.length ls) fun i => [AV.val (Value.string { data := List.toArray (List.getD ls i []) })])) == goodN (lsOf (AV.view (1 : Nat) (List.length ls) fun i => [AV.val (Value.string { data := List.toArray (List.getD ls i []) })]))) = false,
   (!goodN (lsOf (AV.view (1 : Nat) (List.length ls) fun i => [AV.val (Value.string { data := List.toArray (List.getD ls i []) })])) == goodN (lsOf (AV.view (1 : Nat) (List.length ls) fun i => [AV.val (Value.string { data := List.toArray (List.getD ls i []) })]))) = false,
   (!goodN (lsOf (AV.view (1 : Nat) (List.length ls) fun i => [AV.val (Value.string { data := List.toArray (List.getD ls i []) })])) == goodN (lsOf (AV.view (1 : Nat) (List.length ls) fun i => [AV.val (Value.string { data := List.toArray (List.getD ls i []) })]))) = false,
   (!false == goodN (lsOf (AV.view (1 : Nat) (List.length ls) fun i => [AV.val (Value.string { data := List.toArray (List.getD ls i []) })]))) = false,
   (!false == goodN (lsOf (AV.view (1 : Nat) (List.length ls) fun i => [AV.val (Value.string { data := List.toArray (List.getD ls i []) })]))) = false,
   (!false == goodN (lsOf (AV.view (1 : Nat) (List.length ls) fun i => [AV.val (Value.string { data := List.toArray (List.getD ls i []) })]))) = false,
   (!goodN (lsOf (AV.view (1 : Nat) (List.length ls) fun i => [AV.val (Value.string { data := List.toArray (List.getD ls i []) })]))) = true,
   (AV.view (1 : Nat) (List.length ls) fun i => [AV.val (Value.string { data := List.toArray (List.getD ls i []) })]) = AV.view (1 : Nat) (List.length (lsOf (AV.view (1 : Nat) (List.length ls) fun i => [AV.val (Value.string { data := List.toArray (List.getD ls i []) })]))) fun i => [AV.val (Value.string { data := List.toArray (List.getD (lsOf (AV.view (1 : Nat) (List.length ls) fun i => [AV.val (Value.string { data := List.toArray (List.getD ls i []) })])) i []) })],
   lsK (lsOf (AV.view (1 : Nat) (List.length ls) fun i => [AV.val (Value.string { data := List.toArray (List.getD ls i []) })])),
   (goodN (lsOf (AV.view (1 : Nat) (List.length ls) fun i => [AV.val (Value.string { data := List.toArray (List.getD ls i []) })])) == goodN (lsOf (AV.view (1 : Nat) (List.length ls) fun i => [AV.val (Value.string { data := List.toArray (List.getD ls i []) })]))) = true,
   (goodN (lsOf (AV.view (1 : Nat) (List.length ls) fun i => [AV.val (Value.string { data := List.toArray (List.getD ls i []) })])) == goodN (lsOf (AV.view (1 : Nat) (List.length ls) fun i => [AV.val (Value.string { data := List.toArray (List.getD ls i []) })]))) = true,
   (goodN (lsOf (AV.view (1 : Nat) (List.length ls) fun i => [AV.val (Value.string { data := List.toArray (List.getD ls i []) })])) == goodN (lsOf (AV.view (1 : Nat) (List.length ls) fun i => [AV.val (Value.string { data := List.toArray (List.getD ls i []) })]))) = true]) := by kernel_rfl

set_option maxRecDepth 100000 in
theorem wr_nil (b : List UInt8) (ls : List (List UInt8)) : outXS kW1 [(12, { op := [(3, 6, .br false), (7, 9, .br false), (7, 13, .br false), (10, 10, .br true), (10, 21, .br true)], gd := [(3, 4, false), (3, 5, false), (7, 5, false), (7, 6, false), (7, 7, false), (7, 8, false), (7, 11, false), (7, 12, false), (10, 8, true), (10, 9, true), (10, 18, true), (10, 19, true), (10, 20, true)], br := [(19, false), (43, false)], ob := [(6, 2), (6, 4), (9, 3), (10, 1), (10, 5)] })] Try.prog 12 [AV.bytes b, AV.view (1 : Nat) (List.length ls) fun i => [AV.val (Value.string { data := List.toArray (List.getD ls i []) })]] [] 0 [] [] =
   some (AV.val (Value.bool (decide ([] = lsOf (AV.view (1 : Nat) (List.length ls) fun i => [AV.val (Value.string { data := List.toArray (List.getD ls i []) })])))), [], 82,
   [decide ((↑(List.length b) : Int) > (300 : Int)) = false,
   decide ((↑(List.length b) : Int) > (300 : Int)) = false,
   (AV.view (1 : Nat) (List.length ls) fun i => [AV.val (Value.string { data := List.toArray (List.getD ls i []) })]) = AV.view (1 : Nat) (List.length (lsOf (AV.view (1 : Nat) (List.length ls) fun i => [AV.val (Value.string { data := List.toArray (List.getD ls i []) })]))) fun i => [AV.val (Value.string { data := List.toArray (List.getD (lsOf (AV.view (1 : Nat) (List.length ls) fun i => [AV.val (Value.string { data := List.toArray (List.getD ls i []) })])) i []) })],
   True,
   decide ((↑(List.length b) : Int) > (300 : Int)) = false,
   longN (lsOf (AV.view (1 : Nat) (List.length ls) fun i => [AV.val (Value.string { data := List.toArray (List.getD ls i []) })])) = false,
   (AV.view (1 : Nat) (List.length ls) fun i => [AV.val (Value.string { data := List.toArray (List.getD ls i []) })]) = AV.view (1 : Nat) (List.length (lsOf (AV.view (1 : Nat) (List.length ls) fun i => [AV.val (Value.string { data := List.toArray (List.getD ls i []) })]))) fun i => [AV.val (Value.string { data := List.toArray (List.getD (lsOf (AV.view (1 : Nat) (List.length ls) fun i => [AV.val (Value.string { data := List.toArray (List.getD ls i []) })])) i []) })],
   True,
   True,
   (0 : Nat) = (0 : Nat) ∧ (0 : Nat) + List.length b ≤ (1000000000 : Nat),
   (0 : Nat) + ((0 : Nat) + List.length b) ≤ List.length b,
   (AV.view (1 : Nat) (List.length ls) fun i => [AV.val (Value.string { data := List.toArray (List.getD ls i []) })]) = AV.view (1 : Nat) (List.length (lsOf (AV.view (1 : Nat) (List.length ls) fun i => [AV.val (Value.string { data := List.toArray (List.getD ls i []) })]))) fun i => [AV.val (Value.string { data := List.toArray (List.getD (lsOf (AV.view (1 : Nat) (List.length ls) fun i => [AV.val (Value.string { data := List.toArray (List.getD ls i []) })])) i []) })],
   lsK (lsOf (AV.view (1 : Nat) (List.length ls) fun i => [AV.val (Value.string { data := List.toArray (List.getD ls i []) })])),
   goodN (lsOf (AV.view (1 : Nat) (List.length ls) fun i => [AV.val (Value.string { data := List.toArray (List.getD ls i []) })])) = true,
   List.length (List.take ((0 : Nat) + List.length b) b) ≤ (900000 : Nat),
   (AV.view (1 : Nat) (List.length ls) fun i => [AV.val (Value.string { data := List.toArray (List.getD ls i []) })]) = AV.view (1 : Nat) (List.length (lsOf (AV.view (1 : Nat) (List.length ls) fun i => [AV.val (Value.string { data := List.toArray (List.getD ls i []) })]))) fun i => [AV.val (Value.string { data := List.toArray (List.getD (lsOf (AV.view (1 : Nat) (List.length ls) fun i => [AV.val (Value.string { data := List.toArray (List.getD ls i []) })])) i []) })],
   lsK (lsOf (AV.view (1 : Nat) (List.length ls) fun i => [AV.val (Value.string { data := List.toArray (List.getD ls i []) })])),
   (!goodN (lsOf (AV.view (1 : Nat) (List.length ls) fun i => [AV.val (Value.string { data := List.toArray (List.getD ls i []) })])) == goodN (lsOf (AV.view (1 : Nat) (List.length ls) fun i => [AV.val (Value.string { data := List.toArray (List.getD ls i []) })]))) = false,
   (!goodN (lsOf (AV.view (1 : Nat) (List.length ls) fun i => [AV.val (Value.string { data := List.toArray (List.getD ls i []) })])) == goodN (lsOf (AV.view (1 : Nat) (List.length ls) fun i => [AV.val (Value.string { data := List.toArray (List.getD ls i []) })]))) = false,
   (!goodN (lsOf (AV.view (1 : Nat) (List.length ls) fun i => [AV.val (Value.string { data := List.toArray (List.getD ls i []) })])) == goodN (lsOf (AV.view (1 : Nat) (List.length ls) fun i => [AV.val (Value.string { data := List.toArray (List.getD ls i []) })]))) = false,
   (!goodN (lsOf (AV.view (1 : Nat) (List.length ls) fun i => [AV.val (Value.string { data := List.toArray (List.getD ls i []) })])) == goodN (lsOf (AV.view (1 : Nat) (List.length ls) fun i => [AV.val (Value.string { data := List.toArray (List.getD ls i []) })]))) = false,
   (!goodN (lsOf (AV.view (1 : Nat) (List.length ls) fun i => [AV.val (Value.string { data := List.toArray (List.getD ls i []) })])) == goodN (lsOf (AV.view (1 : Nat) (List.length ls) fun i => [AV.val (Value.string { data := List.toArray (List.getD ls i []) })]))) = false,
   (!true == goodN (lsOf (AV.view (1 : Nat) (List.length ls) fun i => [AV.val (Value.string { data := List.toArray (List.getD ls i []) })]))) = false,
   (!true == goodN (lsOf (AV.view (1 : Nat) (List.length ls) fun i => [AV.val (Value.string { data := List.toArray (List.getD ls i []) })]))) = false,
   (!true == goodN (lsOf (AV.view (1 : Nat) (List.length ls) fun i => [AV.val (Value.string { data := List.toArray (List.getD ls i []) })]))) = false,
   (!goodN (lsOf (AV.view (1 : Nat) (List.length ls) fun i => [AV.val (Value.string { data := List.toArray (List.getD ls i []) })]))) = false,
   (0 : Nat) + (List.length (List.take ((0 : Nat) + List.length b) b ++ encL (lsOf (AV.view (1 : Nat) (List.length ls) fun i => [AV.val (Value.string { data := List.toArray (List.getD ls i []) })]))) + (1 : Nat)) ≤ List.length (List.take ((0 : Nat) + List.length b) b ++ encL (lsOf (AV.view (1 : Nat) (List.length ls) fun i => [AV.val (Value.string { data := List.toArray (List.getD ls i []) })])) ++ [(0 : UInt8)]),
   List.length (List.take (List.length (List.take ((0 : Nat) + List.length b) b ++ encL (lsOf (AV.view (1 : Nat) (List.length ls) fun i => [AV.val (Value.string { data := List.toArray (List.getD ls i []) })]))) + (1 : Nat)) (List.take ((0 : Nat) + List.length b) b ++ encL (lsOf (AV.view (1 : Nat) (List.length ls) fun i => [AV.val (Value.string { data := List.toArray (List.getD ls i []) })])) ++ [(0 : UInt8)])) ≤ (1000000000 : Nat),
   getE (List.take (List.length (List.take ((0 : Nat) + List.length b) b ++ encL (lsOf (AV.view (1 : Nat) (List.length ls) fun i => [AV.val (Value.string { data := List.toArray (List.getD ls i []) })]))) + (1 : Nat)) (List.take ((0 : Nat) + List.length b) b ++ encL (lsOf (AV.view (1 : Nat) (List.length ls) fun i => [AV.val (Value.string { data := List.toArray (List.getD ls i []) })])) ++ [(0 : UInt8)])) (↑(List.length b) : Int) = (0 : Int),
   getL (List.take (List.length (List.take ((0 : Nat) + List.length b) b ++ encL (lsOf (AV.view (1 : Nat) (List.length ls) fun i => [AV.val (Value.string { data := List.toArray (List.getD ls i []) })]))) + (1 : Nat)) (List.take ((0 : Nat) + List.length b) b ++ encL (lsOf (AV.view (1 : Nat) (List.length ls) fun i => [AV.val (Value.string { data := List.toArray (List.getD ls i []) })])) ++ [(0 : UInt8)])) (↑(List.length b) : Int) = [],
   (0 : Nat) + (List.length (List.take ((0 : Nat) + List.length b) b ++ encL (lsOf (AV.view (1 : Nat) (List.length ls) fun i => [AV.val (Value.string { data := List.toArray (List.getD ls i []) })]))) + (1 : Nat)) ≤ List.length (List.take ((0 : Nat) + List.length b) b ++ encL (lsOf (AV.view (1 : Nat) (List.length ls) fun i => [AV.val (Value.string { data := List.toArray (List.getD ls i []) })])) ++ [(0 : UInt8)]),
   True,
   (AV.view (1 : Nat) (List.length ls) fun i => [AV.val (Value.string { data := List.toArray (List.getD ls i []) })]) = AV.view (1 : Nat) (List.length (lsOf (AV.view (1 : Nat) (List.length ls) fun i => [AV.val (Value.string { data := List.toArray (List.getD ls i []) })]))) fun i => [AV.val (Value.string { data := List.toArray (List.getD (lsOf (AV.view (1 : Nat) (List.length ls) fun i => [AV.val (Value.string { data := List.toArray (List.getD ls i []) })])) i []) })],
   lsK (lsOf (AV.view (1 : Nat) (List.length ls) fun i => [AV.val (Value.string { data := List.toArray (List.getD ls i []) })])),
   goodN (lsOf (AV.view (1 : Nat) (List.length ls) fun i => [AV.val (Value.string { data := List.toArray (List.getD ls i []) })])) = true,
   List.length b ≤ (900000 : Nat),
   (0 : Nat) + (List.length (b ++ encL (lsOf (AV.view (1 : Nat) (List.length ls) fun i => [AV.val (Value.string { data := List.toArray (List.getD ls i []) })]))) + (1 : Nat)) ≤ List.length (b ++ encL (lsOf (AV.view (1 : Nat) (List.length ls) fun i => [AV.val (Value.string { data := List.toArray (List.getD ls i []) })])) ++ [(0 : UInt8)]),
   (ByteArray.toList { data := List.toArray (List.take (List.length (List.take ((0 : Nat) + List.length b) b ++ encL (lsOf (AV.view (1 : Nat) (List.length ls) fun i => [AV.val (Value.string { data := List.toArray (List.getD ls i []) })]))) + (1 : Nat)) (List.take ((0 : Nat) + List.length b) b ++ encL (lsOf (AV.view (1 : Nat) (List.length ls) fun i => [AV.val (Value.string { data := List.toArray (List.getD ls i []) })])) ++ [(0 : UInt8)])) } == ByteArray.toList { data := List.toArray (List.take (List.length (b ++ encL (lsOf (AV.view (1 : Nat) (List.length ls) fun i => [AV.val (Value.string { data := List.toArray (List.getD ls i []) })]))) + (1 : Nat)) (b ++ encL (lsOf (AV.view (1 : Nat) (List.length ls) fun i => [AV.val (Value.string { data := List.toArray (List.getD ls i []) })])) ++ [(0 : UInt8)])) }) = true,
   (ByteArray.toList { data := List.toArray (List.take (List.length (List.take ((0 : Nat) + List.length b) b ++ encL (lsOf (AV.view (1 : Nat) (List.length ls) fun i => [AV.val (Value.string { data := List.toArray (List.getD ls i []) })]))) + (1 : Nat)) (List.take ((0 : Nat) + List.length b) b ++ encL (lsOf (AV.view (1 : Nat) (List.length ls) fun i => [AV.val (Value.string { data := List.toArray (List.getD ls i []) })])) ++ [(0 : UInt8)])) } == ByteArray.toList { data := List.toArray (List.take (List.length (b ++ encL (lsOf (AV.view (1 : Nat) (List.length ls) fun i => [AV.val (Value.string { data := List.toArray (List.getD ls i []) })]))) + (1 : Nat)) (b ++ encL (lsOf (AV.view (1 : Nat) (List.length ls) fun i => [AV.val (Value.string { data := List.toArray (List.getD ls i []) })])) ++ [(0 : UInt8)])) }) = true,
   (ByteArray.toList { data := List.toArray (List.take (List.length (List.take ((0 : Nat) + List.length b) b ++ encL (lsOf (AV.view (1 : Nat) (List.length ls) fun i => [AV.val (Value.string { data := List.toArray (List.getD ls i []) })]))) + (1 : Nat)) (List.take ((0 : Nat) + List.length b) b ++ encL (lsOf (AV.view (1 : Nat) (List.length ls) fun i => [AV.val (Value.string { data := List.toArray (List.getD ls i []) })])) ++ [(0 : UInt8)])) } == ByteArray.toList { data := List.toArray (List.take (List.length (b ++ encL (lsOf (AV.view (1 : Nat) (List.length ls) fun i => [AV.val (Value.string { data := List.toArray (List.getD ls i []) })]))) + (1 : Nat)) (b ++ encL (lsOf (AV.view (1 : Nat) (List.length ls) fun i => [AV.val (Value.string { data := List.toArray (List.getD ls i []) })])) ++ [(0 : UInt8)])) }) = true,
   (getN (List.take (List.length (List.take ((0 : Nat) + List.length b) b ++ encL (lsOf (AV.view (1 : Nat) (List.length ls) fun i => [AV.val (Value.string { data := List.toArray (List.getD ls i []) })]))) + (1 : Nat)) (List.take ((0 : Nat) + List.length b) b ++ encL (lsOf (AV.view (1 : Nat) (List.length ls) fun i => [AV.val (Value.string { data := List.toArray (List.getD ls i []) })])) ++ [(0 : UInt8)])) (↑(List.length b) : Int) == (↑(List.length (List.take ((0 : Nat) + List.length b) b ++ encL (lsOf (AV.view (1 : Nat) (List.length ls) fun i => [AV.val (Value.string { data := List.toArray (List.getD ls i []) })]))) + (1 : Nat)) : Int)) = true,
   (getN (List.take (List.length (List.take ((0 : Nat) + List.length b) b ++ encL (lsOf (AV.view (1 : Nat) (List.length ls) fun i => [AV.val (Value.string { data := List.toArray (List.getD ls i []) })]))) + (1 : Nat)) (List.take ((0 : Nat) + List.length b) b ++ encL (lsOf (AV.view (1 : Nat) (List.length ls) fun i => [AV.val (Value.string { data := List.toArray (List.getD ls i []) })])) ++ [(0 : UInt8)])) (↑(List.length b) : Int) == (↑(List.length (List.take ((0 : Nat) + List.length b) b ++ encL (lsOf (AV.view (1 : Nat) (List.length ls) fun i => [AV.val (Value.string { data := List.toArray (List.getD ls i []) })]))) + (1 : Nat)) : Int)) = true,
   (getN (List.take (List.length (List.take ((0 : Nat) + List.length b) b ++ encL (lsOf (AV.view (1 : Nat) (List.length ls) fun i => [AV.val (Value.string { data := List.toArray (List.getD ls i []) })]))) + (1 : Nat)) (List.take ((0 : Nat) + List.length b) b ++ encL (lsOf (AV.view (1 : Nat) (List.length ls) fun i => [AV.val (Value.string { data := List.toArray (List.getD ls i []) })])) ++ [(0 : UInt8)])) (↑(List.length b) : Int) == (↑(List.length (List.take ((0 : Nat) + List.length b) b ++ encL (lsOf (AV.view (1 : Nat) (List.length ls) fun i => [AV.val (Value.string { data := List.toArray (List.getD ls i []) })]))) + (1 : Nat)) : Int)) = true,
   Value.slice none (0 : Nat) (0 : Nat) = Value.slice none (0 : Nat) (0 : Nat),
   (AV.view (1 : Nat) (List.length ls) fun i => [AV.val (Value.string { data := List.toArray (List.getD ls i []) })]) = AV.view (1 : Nat) (List.length (lsOf (AV.view (1 : Nat) (List.length ls) fun i => [AV.val (Value.string { data := List.toArray (List.getD ls i []) })]))) fun i => [AV.val (Value.string { data := List.toArray (List.getD (lsOf (AV.view (1 : Nat) (List.length ls) fun i => [AV.val (Value.string { data := List.toArray (List.getD ls i []) })])) i []) })],
   (0 : Nat) ≤ (1000000000 : Nat),
   (getN (List.take (List.length (List.take ((0 : Nat) + List.length b) b ++ encL (lsOf (AV.view (1 : Nat) (List.length ls) fun i => [AV.val (Value.string { data := List.toArray (List.getD ls i []) })]))) + (1 : Nat)) (List.take ((0 : Nat) + List.length b) b ++ encL (lsOf (AV.view (1 : Nat) (List.length ls) fun i => [AV.val (Value.string { data := List.toArray (List.getD ls i []) })])) ++ [(0 : UInt8)])) (↑(List.length b) : Int) == (↑(List.length (List.take ((0 : Nat) + List.length b) b ++ encL (lsOf (AV.view (1 : Nat) (List.length ls) fun i => [AV.val (Value.string { data := List.toArray (List.getD ls i []) })]))) + (1 : Nat)) : Int)) = true]) := by kernel_rfl

set_option maxRecDepth 100000 in
theorem wr_ok (b : List UInt8) (ls : List (List UInt8)) : outXS kW2 [(12, { op := [(3, 6, .br false), (7, 9, .br false), (7, 13, .br false), (10, 10, .br true), (10, 21, .br true)], gd := [(3, 4, false), (3, 5, false), (7, 5, false), (7, 6, false), (7, 7, false), (7, 8, false), (7, 11, false), (7, 12, false), (10, 8, true), (10, 9, true), (10, 18, true), (10, 19, true), (10, 20, true)], br := [(19, false), (43, false)], ob := [(6, 2), (6, 4), (9, 3), (10, 1), (10, 5)] })] Try.prog 12 [AV.bytes b, AV.view (1 : Nat) (List.length ls) fun i => [AV.val (Value.string { data := List.toArray (List.getD ls i []) })]] [] 0 [] [] =
   some (AV.val (Value.bool (decide (txtL (List.take (List.length (getL (List.take (List.length (List.take ((0 : Nat) + List.length b) b ++ encL (lsOf (AV.view (1 : Nat) (List.length ls) fun i => [AV.val (Value.string { data := List.toArray (List.getD ls i []) })]))) + (1 : Nat)) (List.take ((0 : Nat) + List.length b) b ++ encL (lsOf (AV.view (1 : Nat) (List.length ls) fun i => [AV.val (Value.string { data := List.toArray (List.getD ls i []) })])) ++ [(0 : UInt8)])) (↑(List.length b) : Int))) (rowsL (getL (List.take (List.length (List.take ((0 : Nat) + List.length b) b ++ encL (lsOf (AV.view (1 : Nat) (List.length ls) fun i => [AV.val (Value.string { data := List.toArray (List.getD ls i []) })]))) + (1 : Nat)) (List.take ((0 : Nat) + List.length b) b ++ encL (lsOf (AV.view (1 : Nat) (List.length ls) fun i => [AV.val (Value.string { data := List.toArray (List.getD ls i []) })])) ++ [(0 : UInt8)])) (↑(List.length b) : Int)))) = lsOf (AV.view (1 : Nat) (List.length ls) fun i => [AV.val (Value.string { data := List.toArray (List.getD ls i []) })])))), [], 83,
   [decide ((↑(List.length b) : Int) > (300 : Int)) = false,
   decide ((↑(List.length b) : Int) > (300 : Int)) = false,
   (AV.view (1 : Nat) (List.length ls) fun i => [AV.val (Value.string { data := List.toArray (List.getD ls i []) })]) = AV.view (1 : Nat) (List.length (lsOf (AV.view (1 : Nat) (List.length ls) fun i => [AV.val (Value.string { data := List.toArray (List.getD ls i []) })]))) fun i => [AV.val (Value.string { data := List.toArray (List.getD (lsOf (AV.view (1 : Nat) (List.length ls) fun i => [AV.val (Value.string { data := List.toArray (List.getD ls i []) })])) i []) })],
   True,
   decide ((↑(List.length b) : Int) > (300 : Int)) = false,
   longN (lsOf (AV.view (1 : Nat) (List.length ls) fun i => [AV.val (Value.string { data := List.toArray (List.getD ls i []) })])) = false,
   (AV.view (1 : Nat) (List.length ls) fun i => [AV.val (Value.string { data := List.toArray (List.getD ls i []) })]) = AV.view (1 : Nat) (List.length (lsOf (AV.view (1 : Nat) (List.length ls) fun i => [AV.val (Value.string { data := List.toArray (List.getD ls i []) })]))) fun i => [AV.val (Value.string { data := List.toArray (List.getD (lsOf (AV.view (1 : Nat) (List.length ls) fun i => [AV.val (Value.string { data := List.toArray (List.getD ls i []) })])) i []) })],
   True,
   True,
   (0 : Nat) = (0 : Nat) ∧ (0 : Nat) + List.length b ≤ (1000000000 : Nat),
   (0 : Nat) + ((0 : Nat) + List.length b) ≤ List.length b,
   (AV.view (1 : Nat) (List.length ls) fun i => [AV.val (Value.string { data := List.toArray (List.getD ls i []) })]) = AV.view (1 : Nat) (List.length (lsOf (AV.view (1 : Nat) (List.length ls) fun i => [AV.val (Value.string { data := List.toArray (List.getD ls i []) })]))) fun i => [AV.val (Value.string { data := List.toArray (List.getD (lsOf (AV.view (1 : Nat) (List.length ls) fun i => [AV.val (Value.string { data := List.toArray (List.getD ls i []) })])) i []) })],
   lsK (lsOf (AV.view (1 : Nat) (List.length ls) fun i => [AV.val (Value.string { data := List.toArray (List.getD ls i []) })])),
   goodN (lsOf (AV.view (1 : Nat) (List.length ls) fun i => [AV.val (Value.string { data := List.toArray (List.getD ls i []) })])) = true,
   List.length (List.take ((0 : Nat) + List.length b) b) ≤ (900000 : Nat),
   (AV.view (1 : Nat) (List.length ls) fun i => [AV.val (Value.string { data := List.toArray (List.getD ls i []) })]) = AV.view (1 : Nat) (List.length (lsOf (AV.view (1 : Nat) (List.length ls) fun i => [AV.val (Value.string { data := List.toArray (List.getD ls i []) })]))) fun i => [AV.val (Value.string { data := List.toArray (List.getD (lsOf (AV.view (1 : Nat) (List.length ls) fun i => [AV.val (Value.string { data := List.toArray (List.getD ls i []) })])) i []) })],
   lsK (lsOf (AV.view (1 : Nat) (List.length ls) fun i => [AV.val (Value.string { data := List.toArray (List.getD ls i []) })])),
   (!goodN (lsOf (AV.view (1 : Nat) (List.length ls) fun i => [AV.val (Value.string { data := List.toArray (List.getD ls i []) })])) == goodN (lsOf (AV.view (1 : Nat) (List.length ls) fun i => [AV.val (Value.string { data := List.toArray (List.getD ls i []) })]))) = false,
   (!goodN (lsOf (AV.view (1 : Nat) (List.length ls) fun i => [AV.val (Value.string { data := List.toArray (List.getD ls i []) })])) == goodN (lsOf (AV.view (1 : Nat) (List.length ls) fun i => [AV.val (Value.string { data := List.toArray (List.getD ls i []) })]))) = false,
   (!goodN (lsOf (AV.view (1 : Nat) (List.length ls) fun i => [AV.val (Value.string { data := List.toArray (List.getD ls i []) })])) == goodN (lsOf (AV.view (1 : Nat) (List.length ls) fun i => [AV.val (Value.string { data := List.toArray (List.getD ls i []) })]))) = false,
   (!goodN (lsOf (AV.view (1 : Nat) (List.length ls) fun i => [AV.val (Value.string { data := List.toArray (List.getD ls i []) })])) == goodN (lsOf (AV.view (1 : Nat) (List.length ls) fun i => [AV.val (Value.string { data := List.toArray (List.getD ls i []) })]))) = false,
   (!goodN (lsOf (AV.view (1 : Nat) (List.length ls) fun i => [AV.val (Value.string { data := List.toArray (List.getD ls i []) })])) == goodN (lsOf (AV.view (1 : Nat) (List.length ls) fun i => [AV.val (Value.string { data := List.toArray (List.getD ls i []) })]))) = false,
   (!true == goodN (lsOf (AV.view (1 : Nat) (List.length ls) fun i => [AV.val (Value.string { data := List.toArray (List.getD ls i []) })]))) = false,
   (!true == goodN (lsOf (AV.view (1 : Nat) (List.length ls) fun i => [AV.val (Value.string { data := List.toArray (List.getD ls i []) })]))) = false,
   (!true == goodN (lsOf (AV.view (1 : Nat) (List.length ls) fun i => [AV.val (Value.string { data := List.toArray (List.getD ls i []) })]))) = false,
   (!goodN (lsOf (AV.view (1 : Nat) (List.length ls) fun i => [AV.val (Value.string { data := List.toArray (List.getD ls i []) })]))) = false,
   (0 : Nat) + (List.length (List.take ((0 : Nat) + List.length b) b ++ encL (lsOf (AV.view (1 : Nat) (List.length ls) fun i => [AV.val (Value.string { data := List.toArray (List.getD ls i []) })]))) + (1 : Nat)) ≤ List.length (List.take ((0 : Nat) + List.length b) b ++ encL (lsOf (AV.view (1 : Nat) (List.length ls) fun i => [AV.val (Value.string { data := List.toArray (List.getD ls i []) })])) ++ [(0 : UInt8)]),
   List.length (List.take (List.length (List.take ((0 : Nat) + List.length b) b ++ encL (lsOf (AV.view (1 : Nat) (List.length ls) fun i => [AV.val (Value.string { data := List.toArray (List.getD ls i []) })]))) + (1 : Nat)) (List.take ((0 : Nat) + List.length b) b ++ encL (lsOf (AV.view (1 : Nat) (List.length ls) fun i => [AV.val (Value.string { data := List.toArray (List.getD ls i []) })])) ++ [(0 : UInt8)])) ≤ (1000000000 : Nat),
   getE (List.take (List.length (List.take ((0 : Nat) + List.length b) b ++ encL (lsOf (AV.view (1 : Nat) (List.length ls) fun i => [AV.val (Value.string { data := List.toArray (List.getD ls i []) })]))) + (1 : Nat)) (List.take ((0 : Nat) + List.length b) b ++ encL (lsOf (AV.view (1 : Nat) (List.length ls) fun i => [AV.val (Value.string { data := List.toArray (List.getD ls i []) })])) ++ [(0 : UInt8)])) (↑(List.length b) : Int) = (0 : Int),
   getL (List.take (List.length (List.take ((0 : Nat) + List.length b) b ++ encL (lsOf (AV.view (1 : Nat) (List.length ls) fun i => [AV.val (Value.string { data := List.toArray (List.getD ls i []) })]))) + (1 : Nat)) (List.take ((0 : Nat) + List.length b) b ++ encL (lsOf (AV.view (1 : Nat) (List.length ls) fun i => [AV.val (Value.string { data := List.toArray (List.getD ls i []) })])) ++ [(0 : UInt8)])) (↑(List.length b) : Int) ≠ [],
   (0 : Nat) + (List.length (List.take ((0 : Nat) + List.length b) b ++ encL (lsOf (AV.view (1 : Nat) (List.length ls) fun i => [AV.val (Value.string { data := List.toArray (List.getD ls i []) })]))) + (1 : Nat)) ≤ List.length (List.take ((0 : Nat) + List.length b) b ++ encL (lsOf (AV.view (1 : Nat) (List.length ls) fun i => [AV.val (Value.string { data := List.toArray (List.getD ls i []) })])) ++ [(0 : UInt8)]),
   True,
   (AV.view (1 : Nat) (List.length ls) fun i => [AV.val (Value.string { data := List.toArray (List.getD ls i []) })]) = AV.view (1 : Nat) (List.length (lsOf (AV.view (1 : Nat) (List.length ls) fun i => [AV.val (Value.string { data := List.toArray (List.getD ls i []) })]))) fun i => [AV.val (Value.string { data := List.toArray (List.getD (lsOf (AV.view (1 : Nat) (List.length ls) fun i => [AV.val (Value.string { data := List.toArray (List.getD ls i []) })])) i []) })],
   lsK (lsOf (AV.view (1 : Nat) (List.length ls) fun i => [AV.val (Value.string { data := List.toArray (List.getD ls i []) })])),
   goodN (lsOf (AV.view (1 : Nat) (List.length ls) fun i => [AV.val (Value.string { data := List.toArray (List.getD ls i []) })])) = true,
   List.length b ≤ (900000 : Nat),
   (0 : Nat) + (List.length (b ++ encL (lsOf (AV.view (1 : Nat) (List.length ls) fun i => [AV.val (Value.string { data := List.toArray (List.getD ls i []) })]))) + (1 : Nat)) ≤ List.length (b ++ encL (lsOf (AV.view (1 : Nat) (List.length ls) fun i => [AV.val (Value.string { data := List.toArray (List.getD ls i []) })])) ++ [(0 : UInt8)]),
   (ByteArray.toList { data := List.toArray (List.take (List.length (List.take ((0 : Nat) + List.length b) b ++ encL (lsOf (AV.view (1 : Nat) (List.length ls) fun i => [AV.val (Value.string { data := List.toArray (List.getD ls i []) })]))) + (1 : Nat)) (List.take ((0 : Nat) + List.length b) b ++ encL (lsOf (AV.view (1 : Nat) (List.length ls) fun i => [AV.val (Value.string { data := List.toArray (List.getD ls i []) })])) ++ [(0 : UInt8)])) } == ByteArray.toList { data := List.toArray (List.take (List.length (b ++ encL (lsOf (AV.view (1 : Nat) (List.length ls) fun i => [AV.val (Value.string { data := List.toArray (List.getD ls i []) })]))) + (1 : Nat)) (b ++ encL (lsOf (AV.view (1 : Nat) (List.length ls) fun i => [AV.val (Value.string { data := List.toArray (List.getD ls i []) })])) ++ [(0 : UInt8)])) }) = true,
   (ByteArray.toList { data := List.toArray (List.take (List.length (List.take ((0 : Nat) + List.length b) b ++ encL (lsOf (AV.view (1 : Nat) (List.length ls) fun i => [AV.val (Value.string { data := List.toArray (List.getD ls i []) })]))) + (1 : Nat)) (List.take ((0 : Nat) + List.length b) b ++ encL (lsOf (AV.view (1 : Nat) (List.length ls) fun i => [AV.val (Value.string { data := List.toArray (List.getD ls i []) })])) ++ [(0 : UInt8)])) } == ByteArray.toList { data := List.toArray (List.take (List.length (b ++ encL (lsOf (AV.view (1 : Nat) (List.length ls) fun i => [AV.val (Value.string { data := List.toArray (List.getD ls i []) })]))) + (1 : Nat)) (b ++ encL (lsOf (AV.view (1 : Nat) (List.length ls) fun i => [AV.val (Value.string { data := List.toArray (List.getD ls i []) })])) ++ [(0 : UInt8)])) }) = true,
   (ByteArray.toList { data := List.toArray (List.take (List.length (List.take ((0 : Nat) + List.length b) b ++ encL (lsOf (AV.view (1 : Nat) (List.length ls) fun i => [AV.val (Value.string { data := List.toArray (List.getD ls i []) })]))) + (1 : Nat)) (List.take ((0 : Nat) + List.length b) b ++ encL (lsOf (AV.view (1 : Nat) (List.length ls) fun i => [AV.val (Value.string { data := List.toArray (List.getD ls i []) })])) ++ [(0 : UInt8)])) } == ByteArray.toList { data := List.toArray (List.take (List.length (b ++ encL (lsOf (AV.view (1 : Nat) (List.length ls) fun i => [AV.val (Value.string { data := List.toArray (List.getD ls i []) })]))) + (1 : Nat)) (b ++ encL (lsOf (AV.view (1 : Nat) (List.length ls) fun i => [AV.val (Value.string { data := List.toArray (List.getD ls i []) })])) ++ [(0 : UInt8)])) }) = true,
   (getN (List.take (List.length (List.take ((0 : Nat) + List.length b) b ++ encL (lsOf (AV.view (1 : Nat) (List.length ls) fun i => [AV.val (Value.string { data := List.toArray (List.getD ls i []) })]))) + (1 : Nat)) (List.take ((0 : Nat) + List.length b) b ++ encL (lsOf (AV.view (1 : Nat) (List.length ls) fun i => [AV.val (Value.string { data := List.toArray (List.getD ls i []) })])) ++ [(0 : UInt8)])) (↑(List.length b) : Int) == (↑(List.length (List.take ((0 : Nat) + List.length b) b ++ encL (lsOf (AV.view (1 : Nat) (List.length ls) fun i => [AV.val (Value.string { data := List.toArray (List.getD ls i []) })]))) + (1 : Nat)) : Int)) = true,
   (getN (List.take (List.length (List.take ((0 : Nat) + List.length b) b ++ encL (lsOf (AV.view (1 : Nat) (List.length ls) fun i => [AV.val (Value.string { data := List.toArray (List.getD ls i []) })]))) + (1 : Nat)) (List.take ((0 : Nat) + List.length b) b ++ encL (lsOf (AV.view (1 : Nat) (List.length ls) fun i => [AV.val (Value.string { data := List.toArray (List.getD ls i []) })])) ++ [(0 : UInt8)])) (↑(List.length b) : Int) == (↑(List.length (List.take ((0 : Nat) + List.length b) b ++ encL (lsOf (AV.view (1 : Nat) (List.length ls) fun i => [AV.val (Value.string { data := List.toArray (List.getD ls i []) })]))) + (1 : Nat)) : Int)) = true,
   (getN (List.take (List.length (List.take ((0 : Nat) + List.length b) b ++ encL (lsOf (AV.view (1 : Nat) (List.length ls) fun i => [AV.val (Value.string { data := List.toArray (List.getD ls i []) })]))) + (1 : Nat)) (List.take ((0 : Nat) + List.length b) b ++ encL (lsOf (AV.view (1 : Nat) (List.length ls) fun i => [AV.val (Value.string { data := List.toArray (List.getD ls i []) })])) ++ [(0 : UInt8)])) (↑(List.length b) : Int) == (↑(List.length (List.take ((0 : Nat) + List.length b) b ++ encL (lsOf (AV.view (1 : Nat) (List.length ls) fun i => [AV.val (Value.string { data := List.toArray (List.getD ls i []) })]))) + (1 : Nat)) : Int)) = true,
   txtP (List.take (List.length (getL (List.take (List.length (List.take ((0 : Nat) + List.length b) b ++ encL (lsOf (AV.view (1 : Nat) (List.length ls) fun i => [AV.val (Value.string { data := List.toArray (List.getD ls i []) })]))) + (1 : Nat)) (List.take ((0 : Nat) + List.length b) b ++ encL (lsOf (AV.view (1 : Nat) (List.length ls) fun i => [AV.val (Value.string { data := List.toArray (List.getD ls i []) })])) ++ [(0 : UInt8)])) (↑(List.length b) : Int))) (rowsL (getL (List.take (List.length (List.take ((0 : Nat) + List.length b) b ++ encL (lsOf (AV.view (1 : Nat) (List.length ls) fun i => [AV.val (Value.string { data := List.toArray (List.getD ls i []) })]))) + (1 : Nat)) (List.take ((0 : Nat) + List.length b) b ++ encL (lsOf (AV.view (1 : Nat) (List.length ls) fun i => [AV.val (Value.string { data := List.toArray (List.getD ls i []) })])) ++ [(0 : UInt8)])) (↑(List.length b) : Int)))) ∧ (1 : Nat) = (1 : Nat) ∧ (0 : Nat) + List.length (getL (List.take (List.length (List.take ((0 : Nat) + List.length b) b ++ encL (lsOf (AV.view (1 : Nat) (List.length ls) fun i => [AV.val (Value.string { data := List.toArray (List.getD ls i []) })]))) + (1 : Nat)) (List.take ((0 : Nat) + List.length b) b ++ encL (lsOf (AV.view (1 : Nat) (List.length ls) fun i => [AV.val (Value.string { data := List.toArray (List.getD ls i []) })])) ++ [(0 : UInt8)])) (↑(List.length b) : Int)) ≤ List.length (rowsL (getL (List.take (List.length (List.take ((0 : Nat) + List.length b) b ++ encL (lsOf (AV.view (1 : Nat) (List.length ls) fun i => [AV.val (Value.string { data := List.toArray (List.getD ls i []) })]))) + (1 : Nat)) (List.take ((0 : Nat) + List.length b) b ++ encL (lsOf (AV.view (1 : Nat) (List.length ls) fun i => [AV.val (Value.string { data := List.toArray (List.getD ls i []) })])) ++ [(0 : UInt8)])) (↑(List.length b) : Int))),
   (AV.view (1 : Nat) (List.length ls) fun i => [AV.val (Value.string { data := List.toArray (List.getD ls i []) })]) = AV.view (1 : Nat) (List.length (lsOf (AV.view (1 : Nat) (List.length ls) fun i => [AV.val (Value.string { data := List.toArray (List.getD ls i []) })]))) fun i => [AV.val (Value.string { data := List.toArray (List.getD (lsOf (AV.view (1 : Nat) (List.length ls) fun i => [AV.val (Value.string { data := List.toArray (List.getD ls i []) })])) i []) })],
   List.length (txtL (List.take (List.length (getL (List.take (List.length (List.take ((0 : Nat) + List.length b) b ++ encL (lsOf (AV.view (1 : Nat) (List.length ls) fun i => [AV.val (Value.string { data := List.toArray (List.getD ls i []) })]))) + (1 : Nat)) (List.take ((0 : Nat) + List.length b) b ++ encL (lsOf (AV.view (1 : Nat) (List.length ls) fun i => [AV.val (Value.string { data := List.toArray (List.getD ls i []) })])) ++ [(0 : UInt8)])) (↑(List.length b) : Int))) (rowsL (getL (List.take (List.length (List.take ((0 : Nat) + List.length b) b ++ encL (lsOf (AV.view (1 : Nat) (List.length ls) fun i => [AV.val (Value.string { data := List.toArray (List.getD ls i []) })]))) + (1 : Nat)) (List.take ((0 : Nat) + List.length b) b ++ encL (lsOf (AV.view (1 : Nat) (List.length ls) fun i => [AV.val (Value.string { data := List.toArray (List.getD ls i []) })])) ++ [(0 : UInt8)])) (↑(List.length b) : Int))))) ≤ (1000000000 : Nat),
   (getN (List.take (List.length (List.take ((0 : Nat) + List.length b) b ++ encL (lsOf (AV.view (1 : Nat) (List.length ls) fun i => [AV.val (Value.string { data := List.toArray (List.getD ls i []) })]))) + (1 : Nat)) (List.take ((0 : Nat) + List.length b) b ++ encL (lsOf (AV.view (1 : Nat) (List.length ls) fun i => [AV.val (Value.string { data := List.toArray (List.getD ls i []) })])) ++ [(0 : UInt8)])) (↑(List.length b) : Int) == (↑(List.length (List.take ((0 : Nat) + List.length b) b ++ encL (lsOf (AV.view (1 : Nat) (List.length ls) fun i => [AV.val (Value.string { data := List.toArray (List.getD ls i []) })]))) + (1 : Nat)) : Int)) = true]) := by kernel_rfl
end Go.Proofs.Ytmilcpejchjleaa

/- A name that is written: the law NameWrites answers true. -/
namespace Go.Proofs.Ytmilcpejchjleaa
open Go.RowKit
set_option linter.unusedSimpArgs false

theorem nameWrites_walk (b : List UInt8) (ls : List (List UInt8)) : ∃ L' nx', ACall Try.prog 12 [.bytes b, vS ls] [] 0 (.val (.bool true)) L' nx' := by
  have e := lsOf_vS ls
  unfold vS sStr at e
  by_cases hb : b.length > 300
  · refine ⟨_, _, outXS_ok (kW_ok true 0) (wr_long1 b ls) ?_⟩
    repeat' (first | exact allNil | refine allCons ?_ ?_ | (with_reducible refine allRp _ ?_ ?_))
    all_goals exact decide_eq_true (by omega)
  have hb0 : decide ((b.length : Int) > (300 : Int)) = false := decide_eq_false (by omega)
  cases hl : longN ls with
  | true =>
    refine ⟨_, _, outXS_ok (kW_ok true 0) (wr_long2 b ls) ?_⟩
    rw [e]
    repeat' (first | exact allNil | refine allCons ?_ ?_ | (with_reducible refine allRp _ ?_ ?_))
    all_goals first | exact hb0 | exact hl | exact True.intro | (with_reducible rfl)
  | false =>
    have hk := lsK_of hl
    have et : List.take (0 + b.length) b = b := List.take_of_length_le (by omega)
    cases hg : goodN ls with
    | false =>
      refine ⟨_, _, outXS_ok (kW_ok true 0) (wr_bad b ls) ?_⟩
      simp only [e]
      repeat' (first | exact allNil | refine allCons ?_ ?_ | (with_reducible refine allRp _ ?_ ?_))
      all_goals first | exact hb0 | exact hl | exact hk | exact hg | exact True.intro | (with_reducible rfl) | (simp [hg]; done) | (simp; omega)
    | true =>
      have ex : List.take ((b ++ encL ls).length + 1) (b ++ encL ls ++ [0]) = b ++ encL ls ++ [0] := List.take_of_length_le (by simp; omega)
      have hw := getW_put b ls hg
      have hE : getE (b ++ encL ls ++ [0]) (b.length : Int) = 0 := by unfold getE; rw [hw]
      have hN : getN (b ++ encL ls ++ [0]) (b.length : Int) = ((b ++ encL ls ++ [0]).length : Int) := by unfold getN; rw [hw]
      have hL : getL (b ++ encL ls ++ [0]) (b.length : Int) = ls := by unfold getL; rw [hw]
      have hlen := (goodF_enc 1 ls hg (by decide)).1
      have hm := hk.1
      by_cases h0 : ls = []
      · have h := outXS_ok (kW_ok false 1) (wr_nil b ls) (by
          simp only [e, et, ex, hE, hN, hL]
          repeat' (first | exact allNil | refine allCons ?_ ?_ | (with_reducible refine allRp _ ?_ ?_))
          all_goals first | exact hb0 | exact hl | exact hk | exact hg | exact h0 | exact True.intro | (with_reducible rfl) | omega | (simp [hg]; done) | (simp; omega))
        simp only [e, decide_eq_true h0.symm] at h
        exact ⟨_, _, h⟩
      · have h := outXS_ok (kW_ok false 2) (wr_ok b ls) (by
          have h1 := txtP_take ls
          have h2 : (txtL (List.take ls.length (rowsL ls))).length ≤ 1000000000 := by rw [txtL_take]; omega
          simp only [e, et, ex, hE, hN, hL]
          repeat' (first | exact allNil | refine allCons ?_ ?_ | (with_reducible refine allRp _ ?_ ?_))
          all_goals first | exact hb0 | exact hl | exact hk | exact hg | exact h0 | exact h1 | exact ⟨h1.1, True.intro, h1.2.2⟩ | exact h2 | exact True.intro | (with_reducible rfl) | omega | (simp [hg]; done) | (simp; omega))
        simp only [e, et, ex, hL, txtL_take, decide_true] at h
        exact ⟨_, _, h⟩
end Go.Proofs.Ytmilcpejchjleaa
