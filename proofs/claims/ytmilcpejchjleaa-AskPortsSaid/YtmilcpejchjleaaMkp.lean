/- Several texts in one: Kp, Pf. -/
import Derived.Test.YtmilcpejchjleaaMgt
import Derived.Test.YtmilcpejchjleaaAn

/- Functions of lists of texts, known. -/
namespace Go.Proofs.Ytmilcpejchjleaa
open Go.RowKit
set_option linter.unusedSimpArgs false

theorem ACall.upTo {P : Program} {g : FuncId} {xs : List AV} {L L' : List (Nat × AObj)} {nx n1 n2 : Nat} {v : AV} (h : ACall P g xs L nx v L' n1) (hn : n1 ≤ n2) : ACall P g xs L nx v L' n2 := by
  intro E w vs hs hr
  refine Calls.mono (h E w vs hs hr) fun e w' ⟨E', u, h1, h2, h3, h4⟩ => ⟨E', u, h1, h2.up hn, h3, h4⟩

/-- a function of two lists of texts that yields a plain value -/
def kPlain2 (f : FuncId) (v : List (List UInt8) → List (List UInt8) → Value) (K : List (List UInt8) → List (List UInt8) → Prop) : Inl := fun g xs L nx =>
  if g = f then
    match xs with
    | [x, y] =>
      match strsOf (hp L) x, strsOf (hp L) y with
      | some (a, p), some (b, p') => if L.all (fun q => decide (q.1 < nx)) = true then some (.val (v a b), L, nx, [p, p', K a b]) else none
      | _, _ => none
    | _ => none
  else none
theorem kPlain2_ok {P : Program} {f : FuncId} {v : List (List UInt8) → List (List UInt8) → Value} {K : List (List UInt8) → List (List UInt8) → Prop} (hc : ∀ a b, K a b → ACall P f [vS a, vS b] [] 0 (.val (v a b)) [] 0) : InlOk P (kPlain2 f v K) := by
  intro g xs L nx w L' nx' q h hq
  unfold kPlain2 at h
  split at h
  · rename_i hg
    subst hg
    split at h
    · rename_i x y
      split at h
      · rename_i a p b p' hx hy
        split at h
        · rename_i hlt
          simp only [Option.some.injEq, Prod.mk.injEq] at h
          obtain ⟨rfl, rfl, rfl, rfl⟩ := h
          simp only [List.forall_mem_cons, List.not_mem_nil, false_implies, implies_true, and_true] at hq
          obtain ⟨q1, q2, q3⟩ := hq
          obtain ⟨x', hfx, hrx⟩ := strs_frs hx q1
          obtain ⟨y', hfy, hry⟩ := strs_frs hy q2
          have := (hc a b q3).fresh' (L := L) (nx := nx) (by rfl) (by rfl) (FrsL.cons hfx (FrsL.cons hfy FrsL.nil)) hlt
          refine ⟨?_, Nat.le_refl _⟩
          have h2 : ACall P g [x', y'] L nx (.val (v a b)) L nx := by simpa [AV.ren, renH] using this
          refine h2.args rfl fun E w k a a' u h1 h2 h3 => ?_
          match k with
          | 0 =>
            simp only [List.getElem?_cons_zero, Option.some.injEq] at h1 h2
            subst h1 h2
            exact hrx _ _ _ h3
          | 1 =>
            simp only [List.getElem?_cons_zero, List.getElem?_cons_succ, Option.some.injEq] at h1 h2
            subst h1 h2
            exact hry _ _ _ h3
          | k + 2 => simp at h1
        · cases h
      · cases h
    · cases h
  · cases h

def kExact : Inl := kPlain2 44 (fun a b => .bool (decide (a = b))) (fun a _ => a.length ≤ 1000000000)
theorem kExact_ok : InlOk Try.prog kExact := kPlain2_ok fun a b h => exact_call a b h [] 0
end Go.Proofs.Ytmilcpejchjleaa

/- Names written, and whether they may be: known. -/
namespace Go.Proofs.Ytmilcpejchjleaa
open Go.RowKit
set_option linter.unusedSimpArgs false

/-- Put, known: refused, or written -/
def kPutN (bad : Bool) : Inl := fun g xs L nx =>
  if g = 42 then
    match xs with
    | [x, y] =>
      match bytesOf (hp L) x, strsOf (hp L) y with
      | some (b, p), some (ls, p') =>
        if L.all (fun q => decide (q.1 < nx)) = true then
          if bad then some (.tup [nilS, iI 1], L, nx + 7, [p, p', lsK ls, goodN ls = false])
          else some (.tup [.sl (3 + nx) 0 ((b ++ encL ls).length + 1) none, iI 0], (3 + nx, puO (b ++ encL ls ++ [0])) :: L, nx + 6, [p, p', lsK ls, goodN ls = true, b.length ≤ 900000])
        else none
      | _, _ => none
    | _ => none
  else none

theorem args2 {P : Program} {g : FuncId} {x y y' : AV} {L L' : List (Nat × AObj)} {nx n1 : Nat} {v : AV} (h : ACall P g [x, y] L nx v L' n1) (hr : ∀ E w u, Rep E w y' u → Rep E w y u) : ACall P g [x, y'] L nx v L' n1 :=
  h.args rfl fun E w k a a' u h1 h2 h3 => by
    match k with
    | 0 =>
      simp only [List.getElem?_cons_zero, Option.some.injEq] at h1 h2
      subst h1 h2
      exact h3
    | 1 =>
      simp only [List.getElem?_cons_zero, List.getElem?_cons_succ, Option.some.injEq] at h1 h2
      subst h1 h2
      exact hr _ _ _ h3
    | k + 2 => simp at h1

theorem kPutN_ok (bad : Bool) : InlOk Try.prog (kPutN bad) := by
  intro g xs L nx v L' nx' q h hq
  unfold kPutN at h
  split at h
  · rename_i hg
    subst hg
    split at h
    · rename_i x y
      split at h
      · rename_i b p ls p' hx hy
        split at h
        · rename_i hlt
          split at h
          · simp only [Option.some.injEq, Prod.mk.injEq] at h
            obtain ⟨rfl, rfl, rfl, rfl⟩ := h
            simp only [List.forall_mem_cons, List.not_mem_nil, false_implies, implies_true, and_true] at hq
            obtain ⟨q1, q2, q3, q4⟩ := hq
            obtain ⟨y', hf, hr⟩ := strs_frs hy q2
            have := (put_bad b ls q3 q4).fresh' (L := L) (nx := nx) (by rfl) (by rfl) (FrsL.cons (Frs.bytes hx q1) (FrsL.cons hf FrsL.nil)) hlt
            exact ⟨args2 this hr, by omega⟩
          · simp only [Option.some.injEq, Prod.mk.injEq] at h
            obtain ⟨rfl, rfl, rfl, rfl⟩ := h
            simp only [List.forall_mem_cons, List.not_mem_nil, false_implies, implies_true, and_true] at hq
            obtain ⟨q1, q2, q3, q4, q5⟩ := hq
            obtain ⟨y', hf, hr⟩ := strs_frs hy q2
            have := (put_ok b ls q3 q4 q5).fresh' (L := L) (nx := nx) (by rfl) (by rfl) (FrsL.cons (Frs.bytes hx q1) (FrsL.cons hf FrsL.nil)) hlt
            refine ⟨args2 (x := x) (y := y') ?_ hr, by omega⟩
            simpa [AV.ren, renL, renH, puO, objApp, AObj.ren, plus, iI] using this
        · cases h
      · cases h
    · cases h
  · cases h

def kRPut : Inl := fun g xs L nx =>
  if g = 50 then
    match xs with
    | [x, y] =>
      match bytesOf (hp L) x, strsOf (hp L) y with
      | some (b, p), some (ls, p') =>
        if L.all (fun q => decide (q.1 < nx)) = true then
          some (.sl (3 + nx) 0 ((b ++ encL ls).length + 1) none, (3 + nx, puO (b ++ encL ls ++ [0])) :: L, nx + 5, [p, p', lsK ls, goodN ls = true, b.length ≤ 900000])
        else none
      | _, _ => none
    | _ => none
  else none
theorem kRPut_ok : InlOk Try.prog kRPut := by
  intro g xs L nx v L' nx' q h hq
  unfold kRPut at h
  split at h
  · rename_i hg
    subst hg
    split at h
    · rename_i x y
      split at h
      · rename_i b p ls p' hx hy
        split at h
        · rename_i hlt
          simp only [Option.some.injEq, Prod.mk.injEq] at h
          obtain ⟨rfl, rfl, rfl, rfl⟩ := h
          simp only [List.forall_mem_cons, List.not_mem_nil, false_implies, implies_true, and_true] at hq
          obtain ⟨q1, q2, q3, q4, q5⟩ := hq
          obtain ⟨y', hf, hr⟩ := strs_frs hy q2
          have := (rput_ok b ls q3 q4 q5).fresh' (L := L) (nx := nx) (by rfl) (by rfl) (FrsL.cons (Frs.bytes hx q1) (FrsL.cons hf FrsL.nil)) hlt
          refine ⟨args2 (x := x) (y := y') ?_ hr, by omega⟩
          simpa [AV.ren, renL, renH, puO, objApp, AObj.ren, plus, iI] using this
        · cases h
      · cases h
    · cases h
  · cases h

def kGoodP : Inl := kPlain 49 (fun ls => .bool (goodN ls)) lsK
theorem kGoodP_ok : InlOk Try.prog kGoodP := kPlain_ok fun ls h => good_call ls h.1 h.2 [] 0
def kRGood : Inl := kPlain 48 (fun ls => .bool (goodN ls)) fun _ => True
theorem kRGood_ok : InlOk Try.prog kRGood := kPlain_ok fun ls _ => rgood_call ls [] 0
def kLong : Inl := kPlain 47 (fun ls => .bool (longN ls)) fun _ => True
theorem kLong_ok : InlOk Try.prog kLong := kPlain_ok fun ls _ => long_call ls [] 0
theorem longN_k {ls : List (List UInt8)} (h : longN ls = false) : ls.length ≤ 200 ∧ ∀ s ∈ ls, s.length ≤ 300 := by
  unfold longN longR at h
  simp only [Bool.or_eq_false_iff, decide_eq_false_iff_not, List.any_eq_false, decide_eq_true_eq] at h
  exact ⟨by omega, fun s hs => by have := h.2 s hs; omega⟩
theorem lsK_of {ls : List (List UInt8)} (h : longN ls = false) : lsK ls := by
  obtain ⟨h1, h2⟩ := longN_k h
  refine ⟨by omega, fun i => ?_⟩
  rw [List.getD_eq_getElem?_getD]
  by_cases hi : i < ls.length
  · rw [List.getElem?_eq_getElem hi, Option.getD_some]
    have := h2 _ (List.getElem_mem hi)
    omega
  · rw [List.getElem?_eq_none (by omega)]
    simp

end Go.Proofs.Ytmilcpejchjleaa
