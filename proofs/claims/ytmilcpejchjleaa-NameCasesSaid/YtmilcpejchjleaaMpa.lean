/- Several texts in one: Pa0, PaRun, Pa. -/
import Derived.Test.YtmilcpejchjleaaMbo
import Derived.Test.YtmilcpejchjleaaMnr

/- A name's text that is read: labels as a known function. -/
namespace Go.Proofs.Ytmilcpejchjleaa
open Go.RowKit
set_option linter.unusedSimpArgs false

def labO (s : List UInt8) : Bool := (cutW s).isSome
def labL (s : List UInt8) : List (List UInt8) := match cutW s with | some p => p.1 ++ [p.2] | none => []

theorem cutF_bound (B : Nat) : ∀ (k : Nat) (s b : List UInt8) (l : List (List UInt8)) (p : List (List UInt8) × List UInt8), cutF k s b l = some p → (∀ e ∈ l, e.length ≤ B) → b.length + k ≤ B → (p.1 ++ [p.2]).length ≤ l.length + k + 1 ∧ ∀ e ∈ p.1 ++ [p.2], e.length ≤ B
  | 0, s, b, l, p, h, hl, hb => by
    simp only [cutF, Option.some.injEq] at h
    subst h
    refine ⟨by simp, fun e he => ?_⟩
    rcases List.mem_append.1 he with h | h
    · exact hl e h
    · rw [List.mem_singleton.1 h]; show b.length ≤ B; omega
  | k + 1, [], b, l, p, h, hl, hb => by
    simp only [cutF, Option.some.injEq] at h
    subst h
    refine ⟨by simp <;> omega, fun e he => ?_⟩
    rcases List.mem_append.1 he with h | h
    · exact hl e h
    · rw [List.mem_singleton.1 h]; show b.length ≤ B; omega
  | k + 1, c :: r, b, l, p, h, hl, hb => by
    unfold cutF at h
    split at h
    · have := cutF_bound B k r [] (l ++ [b]) p h (fun e he => by
        rcases List.mem_append.1 he with h | h
        · exact hl e h
        · rw [List.mem_singleton.1 h]; omega) (by simp; omega)
      have el : (l ++ [b]).length = l.length + 1 := by simp
      rw [el] at this
      exact ⟨by omega, this.2⟩
    · split at h
      · split at h
        · have := cutF_bound B k _ _ l p h hl (by simp; omega)
          exact ⟨by omega, this.2⟩
        · cases h
      · have := cutF_bound B k _ _ l p h hl (by simp; omega)
        exact ⟨by omega, this.2⟩

theorem labL_k (s : List UInt8) (hs : s.length ≤ 900000) : lsK (labL s) := by
  unfold labL
  split
  · rename_i p h
    have := cutF_bound s.length s.length s [] [] p h (fun e he => by cases he) (by simp)
    simp only [List.length_nil, Nat.zero_add] at this
    refine ⟨by omega, fun i => ?_⟩
    rw [List.getD_eq_getElem?_getD]
    by_cases hi : i < (p.1 ++ [p.2]).length
    · rw [List.getElem?_eq_getElem hi, Option.getD_some]
      have := this.2 _ (List.getElem_mem hi)
      omega
    · rw [List.getElem?_eq_none (by omega)]
      simp
  · exact ⟨by simp, fun i => by simp⟩
theorem labL_ne {s : List UInt8} (h : labO s = true) : labL s ≠ [] := by
  unfold labO at h
  unfold labL
  cases hc : cutW s with
  | none => rw [hc] at h; cases h
  | some p => simp

theorem ACall.flat {P : Program} {g : FuncId} {xs : List AV} {L L1 L2 : List (Nat × AObj)} {nx n1 : Nat} {v : AV} (h : ACall P g xs L nx v L1 n1) (hl : HLEqv L1 L2) : ACall P g xs L nx v L2 n1 := by
  intro E w vs hs hr
  refine Calls.mono (h E w vs hs hr) fun e w' ⟨E', u, h1, h2, h3, h4⟩ => ⟨E', u, h1, h2.eqv (HLEqv.hp _ _ hl), h3, h4.eqv (HEqv.refl _) (HLEqv.hp _ _ hl)⟩

/-- one object of its own, numbered 0 -/
theorem ACall.to0 {P : Program} {g : FuncId} {xs : List AV} {k n n1 m : Nat} {t : TypeId} {es : List (List UInt8)} {v : AV} {l : List (List AV)} (h : ACall P g xs [] 0 (.tup [.sl k 0 n none, v]) [(k, ⟨t, 1, false, false, .flat l⟩)] n1) (hk : k < n1) (hv : ∀ r, v.ren r = v) (he : l = rowsL es) (hn : n = m) :
    ACall P g xs [] 0 (.tup [.sl 0 0 m none, v]) [(0, objFlat t 1 (rowsL es))] 1 := by
  subst he hn
  refine h.renew [k] (Nat.zero_le _) (by simp) (fun x hx => by rw [List.mem_singleton.1 hx]; omega) ?_ fun i x hx => ?_
  · show _ = AV.tup [(AV.sl 0 0 n none).ren _, v.ren _]
    rw [hv]
    simp [AV.ren, renX]
  · simp only [hp] at hx
    split at hx
    · rename_i e
      injection hx with hx
      subst hx
      have e0 : i = 0 := e
      subst e0
      rw [ren_flat]
      simp [hp, renX, objFlat]
    · cases hx

theorem labels_no (s : List UInt8) (hs : s.length ≤ 1000000) (h : labO s = false) : ACall Try.prog 83 [sStr s] [] 0 (.tup [nilS, .val (.bool false)]) [] 0 := by
  have hl := la_loop s hs s.length 0 [] [] (by omega) (by omega) (by simp) (by simp)
  have hc : cutF s.length (s.drop 0) [] [] = none := by
    unfold labO cutW at h
    cases hc : cutF s.length s [] [] with
    | none => exact hc
    | some p => rw [hc] at h; cases h
  rw [hc] at hl
  exact outXS_ok kByteOf_ok (la_no s) (by
    repeat' (first | exact allNil | refine allCons ?_ ?_ | (with_reducible refine allRp _ ?_ ?_))
    all_goals first | (with_reducible rfl) | exact hl)

theorem labels_ok (s : List UInt8) (hs : s.length ≤ 900000) (h : labO s = true) : ACall Try.prog 83 [sStr s] [] 0 (.tup [.sl 0 0 (labL s).length none, .val (.bool true)]) [(0, objFlat 9 1 (rowsL (labL s)))] 1 := by
  have hl := la_loop s (by omega) s.length 0 [] [] (by omega) (by omega) (by simp) (by simp)
  obtain ⟨p, hp⟩ : ∃ p, cutW s = some p := Option.isSome_iff_exists.1 h
  have hk := labL_k s hs
  have hL : labL s = p.1 ++ [p.2] := by unfold labL; rw [hp]
  have hc : cutF s.length (s.drop 0) [] [] = some p := hp
  rw [hc] at hl
  obtain ⟨l, b⟩ := p
  rw [hL] at hk ⊢
  have hn : l.length + 1 ≤ 1000000 := by simpa using hk.1
  have hb : b.length ≤ 1000000 := by
    have := hk.2 l.length
    rw [List.getD_eq_getElem?_getD, List.getElem?_append_right (Nat.le_refl _), Nat.sub_self] at this
    simpa using this
  have hl2 : EvXL Try.prog 0 (loopAt Try.prog 83 4) ((laG00 s 0).st 0) (.exit 0) ((laES l b).st 0) := hl
  unfold laES at hl2
  have eb : List.take b.length b = b := List.take_of_length_le (Nat.le_refl _)
  have er : (rowsL l).length = l.length := by simp [rowsL]
  split at hl2 <;> split at hl2
  · rename_i h1 h2
    subst h1 h2
    have hh := outXS_ok kByteOf_ok (la_ok00 s) (by
      repeat' (first | exact allNil | refine allCons ?_ ?_ | (with_reducible refine allRp _ ?_ ?_))
      all_goals first | (with_reducible rfl) | exact hl2)
    exact (hh.flat (L2 := [(4, ⟨9, 1, false, false, .flat [[sStr []]]⟩)]) ⟨rfl, objFlat_eqv .., trivial⟩).to0 (by decide) (fun r => rfl) rfl rfl
  · rename_i h1 h2
    subst h1
    have hh := outXS_ok kByteOf_ok (la_ok01 s b) (by
      repeat' (first | exact allNil | refine allCons ?_ ?_ | (with_reducible refine allRp _ ?_ ?_))
      all_goals first | (with_reducible rfl) | exact hl2 | omega)
    rw [eb] at hh
    exact (hh.flat (L2 := [(5, ⟨9, 1, false, false, .flat [[sStr b]]⟩)]) ⟨rfl, objFlat_eqv .., trivial⟩).to0 (by decide) (fun r => rfl) rfl rfl
  · rename_i h1 h2
    subst h2
    have hh := outXS_ok kByteOf_ok (la_ok10 s l) (by
      repeat' (first | exact allNil | refine allCons ?_ ?_ | (with_reducible refine allRp _ ?_ ?_))
      all_goals first | (with_reducible rfl) | exact hl2 | exact er | omega)
    exact hh.to0 (by decide) (fun r => rfl) (by simp [rowsL, sStr]) (by simp)
  · have hh := outXS_ok kByteOf_ok (la_ok11 s l b) (by
      repeat' (first | exact allNil | refine allCons ?_ ?_ | (with_reducible refine allRp _ ?_ ?_))
      all_goals first | (with_reducible rfl) | exact hl2 | exact er | omega)
    rw [eb] at hh
    exact hh.to0 (by decide) (fun r => rfl) (by simp [rowsL, sStr]) (by simp)

def kLabels (ok : Bool) : Inl := fun g xs L nx =>
  if g = 83 then
    match xs with
    | [x] =>
      if L.all (fun q => decide (q.1 < nx)) = true then
        if ok then some (.tup [.sl nx 0 (labL (strB [x])).length none, .val (.bool true)], (nx, objFlat 9 1 (rowsL (labL (strB [x])))) :: L, nx + 1, [x = sStr (strB [x]), (strB [x]).length ≤ 900000, labO (strB [x]) = true])
        else some (.tup [nilS, .val (.bool false)], L, nx, [x = sStr (strB [x]), (strB [x]).length ≤ 900000, labO (strB [x]) = false])
      else none
    | _ => none
  else none
theorem kLabels_ok (ok : Bool) : InlOk Try.prog (kLabels ok) := by
  intro g xs L nx v L' nx' q h hq
  unfold kLabels at h
  split at h
  · rename_i hg
    subst hg
    split at h
    · rename_i x
      split at h
      · rename_i hlt
        split at h
        · simp only [Option.some.injEq, Prod.mk.injEq] at h
          obtain ⟨rfl, rfl, rfl, rfl⟩ := h
          simp only [List.forall_mem_cons, List.not_mem_nil, false_implies, implies_true, and_true] at hq
          obtain ⟨q1, q2, q3⟩ := hq
          generalize strB [x] = s at *
          subst q1
          have hpl : ([(0, objFlat 9 1 (rowsL (labL s)))] : List (Nat × AObj)).all (fun p => p.2.plB 9) = true := by
            simp [AObj.plB, objFlat, rowsL, AV.plB, sStr]
          have := (labels_ok s q2 q3).fresh' (L := L) (nx := nx) (by rfl) hpl (FrsL.cons (.free fun r => rfl) FrsL.nil) hlt
          refine ⟨?_, by omega⟩
          simpa [AV.ren, renL, renH, ren_flat, plus, nilS, iI] using this
        · simp only [Option.some.injEq, Prod.mk.injEq] at h
          obtain ⟨rfl, rfl, rfl, rfl⟩ := h
          simp only [List.forall_mem_cons, List.not_mem_nil, false_implies, implies_true, and_true] at hq
          obtain ⟨q1, q2, q3⟩ := hq
          generalize strB [x] = s at *
          subst q1
          have := (labels_no s (by omega) q3).fresh' (L := L) (nx := nx) (by rfl) (by rfl) (FrsL.cons (.free fun r => rfl) FrsL.nil) hlt
          exact ⟨this, Nat.le_refl _⟩
      · cases h
    · cases h
  · cases h
def kTextP : Inl := kPlain 45 (fun ls => .string ⟨(textN ls).toArray⟩) lsK
theorem kTextP_ok : InlOk Try.prog kTextP := kPlain_ok fun ls h => text_call ls h
def kPa (ok : Bool) : Inl := orInl (kLabels ok) (orInl kGoodP kTextP)
theorem kPa_ok (ok : Bool) : InlOk Try.prog (kPa ok) := orInl_ok (kLabels_ok ok) (orInl_ok kGoodP_ok kTextP_ok)
def kPa0 : Inl := kPa false
def kPa1 : Inl := kPa true
end Go.Proofs.Ytmilcpejchjleaa

/- A name's text that is read, reckoned: Parse. -/
namespace Go.Proofs.Ytmilcpejchjleaa
open Go.RowKit

set_option maxRecDepth 100000 in
theorem pa_root (s : List UInt8) : outXS kPa0 [(43, { br := [(7, true)] })] Try.prog 43 [AV.val (Value.string { data := List.toArray s })] [] 0 [] [] =
   some (AV.tup [AV.val (Value.slice none (0 : Nat) (0 : Nat)), AV.val (Value.int IntKind.i64 (0 : Int))], [], 6,
   [(ByteArray.toList { data := List.toArray s } == [(46 : UInt8)]) = true]) := by kernel_rfl

set_option maxRecDepth 100000 in
theorem pa_none (s : List UInt8) : outXS kPa0 [(43, { br := [(7, false)] })] Try.prog 43 [AV.val (Value.string { data := List.toArray s })] [] 0 [] [] =
   some (AV.tup [AV.val (Value.slice none (0 : Nat) (0 : Nat)), AV.val (Value.int IntKind.i64 (9 : Int))], [], 26,
   [(ByteArray.toList { data := List.toArray s } == [(46 : UInt8)]) = false,
   AV.val (Value.string { data := List.toArray s }) = AV.val (Value.string { data := List.toArray (strB [AV.val (Value.string { data := List.toArray s })]) }),
   List.length (strB [AV.val (Value.string { data := List.toArray s })]) ≤ (900000 : Nat),
   labO (strB [AV.val (Value.string { data := List.toArray s })]) = false]) := by kernel_rfl

set_option maxRecDepth 100000 in
theorem pa_bad (s : List UInt8) : outXS kPa1 [(43, { op := [(4, 12, .br true)], gd := [(4, 8, true), (4, 9, true), (4, 10, true), (4, 11, true)], br := [(7, false)] })] Try.prog 43 [AV.val (Value.string { data := List.toArray s })] [] 0 [] [] =
   some (AV.tup [AV.val (Value.slice none (0 : Nat) (0 : Nat)), AV.val (Value.int IntKind.i64 (9 : Int))], [], 27,
   [(ByteArray.toList { data := List.toArray s } == [(46 : UInt8)]) = false,
   AV.val (Value.string { data := List.toArray s }) = AV.val (Value.string { data := List.toArray (strB [AV.val (Value.string { data := List.toArray s })]) }),
   List.length (strB [AV.val (Value.string { data := List.toArray s })]) ≤ (900000 : Nat),
   labO (strB [AV.val (Value.string { data := List.toArray s })]) = true,
   txtP (List.take (List.length (labL (strB [AV.val (Value.string { data := List.toArray s })]))) (rowsL (labL (strB [AV.val (Value.string { data := List.toArray s })])))) ∧ (1 : Nat) = (1 : Nat) ∧ (0 : Nat) + List.length (labL (strB [AV.val (Value.string { data := List.toArray s })])) ≤ List.length (rowsL (labL (strB [AV.val (Value.string { data := List.toArray s })]))),
   lsK (txtL (List.take (List.length (labL (strB [AV.val (Value.string { data := List.toArray s })]))) (rowsL (labL (strB [AV.val (Value.string { data := List.toArray s })]))))),
   (!goodN (txtL (List.take (List.length (labL (strB [AV.val (Value.string { data := List.toArray s })]))) (rowsL (labL (strB [AV.val (Value.string { data := List.toArray s })])))))) = true,
   (!goodN (txtL (List.take (List.length (labL (strB [AV.val (Value.string { data := List.toArray s })]))) (rowsL (labL (strB [AV.val (Value.string { data := List.toArray s })])))))) = true,
   (!goodN (txtL (List.take (List.length (labL (strB [AV.val (Value.string { data := List.toArray s })]))) (rowsL (labL (strB [AV.val (Value.string { data := List.toArray s })])))))) = true,
   (!goodN (txtL (List.take (List.length (labL (strB [AV.val (Value.string { data := List.toArray s })]))) (rowsL (labL (strB [AV.val (Value.string { data := List.toArray s })])))))) = true,
   (!goodN (txtL (List.take (List.length (labL (strB [AV.val (Value.string { data := List.toArray s })]))) (rowsL (labL (strB [AV.val (Value.string { data := List.toArray s })])))))) = true]) := by kernel_rfl

set_option maxRecDepth 100000 in
theorem pa_text (s : List UInt8) : outXS kPa1 [(43, { op := [(4, 12, .br false)], gd := [(4, 8, false), (4, 9, false), (4, 10, false), (4, 11, false)], br := [(7, false), (25, true)] })] Try.prog 43 [AV.val (Value.string { data := List.toArray s })] [] 0 [] [] =
   some (AV.tup [AV.val (Value.slice none (0 : Nat) (0 : Nat)), AV.val (Value.int IntKind.i64 (9 : Int))], [], 27,
   [(ByteArray.toList { data := List.toArray s } == [(46 : UInt8)]) = false,
   AV.val (Value.string { data := List.toArray s }) = AV.val (Value.string { data := List.toArray (strB [AV.val (Value.string { data := List.toArray s })]) }),
   List.length (strB [AV.val (Value.string { data := List.toArray s })]) ≤ (900000 : Nat),
   labO (strB [AV.val (Value.string { data := List.toArray s })]) = true,
   txtP (List.take (List.length (labL (strB [AV.val (Value.string { data := List.toArray s })]))) (rowsL (labL (strB [AV.val (Value.string { data := List.toArray s })])))) ∧ (1 : Nat) = (1 : Nat) ∧ (0 : Nat) + List.length (labL (strB [AV.val (Value.string { data := List.toArray s })])) ≤ List.length (rowsL (labL (strB [AV.val (Value.string { data := List.toArray s })]))),
   lsK (txtL (List.take (List.length (labL (strB [AV.val (Value.string { data := List.toArray s })]))) (rowsL (labL (strB [AV.val (Value.string { data := List.toArray s })]))))),
   (!goodN (txtL (List.take (List.length (labL (strB [AV.val (Value.string { data := List.toArray s })]))) (rowsL (labL (strB [AV.val (Value.string { data := List.toArray s })])))))) = false,
   (!goodN (txtL (List.take (List.length (labL (strB [AV.val (Value.string { data := List.toArray s })]))) (rowsL (labL (strB [AV.val (Value.string { data := List.toArray s })])))))) = false,
   txtP (List.take (List.length (labL (strB [AV.val (Value.string { data := List.toArray s })]))) (rowsL (labL (strB [AV.val (Value.string { data := List.toArray s })])))) ∧ (1 : Nat) = (1 : Nat) ∧ (0 : Nat) + List.length (labL (strB [AV.val (Value.string { data := List.toArray s })])) ≤ List.length (rowsL (labL (strB [AV.val (Value.string { data := List.toArray s })]))),
   lsK (txtL (List.take (List.length (labL (strB [AV.val (Value.string { data := List.toArray s })]))) (rowsL (labL (strB [AV.val (Value.string { data := List.toArray s })]))))),
   (!goodN (txtL (List.take (List.length (labL (strB [AV.val (Value.string { data := List.toArray s })]))) (rowsL (labL (strB [AV.val (Value.string { data := List.toArray s })])))))) = false,
   (!goodN (txtL (List.take (List.length (labL (strB [AV.val (Value.string { data := List.toArray s })]))) (rowsL (labL (strB [AV.val (Value.string { data := List.toArray s })])))))) = false,
   (!goodN (txtL (List.take (List.length (labL (strB [AV.val (Value.string { data := List.toArray s })]))) (rowsL (labL (strB [AV.val (Value.string { data := List.toArray s })])))))) = false,
   (!ByteArray.toList { data := List.toArray (textN (txtL (List.take (List.length (labL (strB [AV.val (Value.string { data := List.toArray s })]))) (rowsL (labL (strB [AV.val (Value.string { data := List.toArray s })])))))) } == ByteArray.toList { data := List.toArray s }) = true]) := by kernel_rfl

set_option maxRecDepth 100000 in
theorem pa_ok (s : List UInt8) : outXS kPa1 [(43, { op := [(4, 12, .br false)], gd := [(4, 8, false), (4, 9, false), (4, 10, false), (4, 11, false)], br := [(7, false), (25, false)] })] Try.prog 43 [AV.val (Value.string { data := List.toArray s })] [] 0 [(11 : Nat)] [] =
   some (AV.tup [AV.sl 11 (0 : Nat) (List.length (labL (strB [AV.val (Value.string { data := List.toArray s })]))) none, AV.val (Value.int IntKind.i64 (0 : Int))], [(11, { t := (9 : Nat), sz := (1 : Nat), exact := false, fz := false, body := Body.flat (rowsL (labL (strB [AV.val (Value.string { data := List.toArray s })]))) })], 28,
   [(ByteArray.toList { data := List.toArray s } == [(46 : UInt8)]) = false,
   AV.val (Value.string { data := List.toArray s }) = AV.val (Value.string { data := List.toArray (strB [AV.val (Value.string { data := List.toArray s })]) }),
   List.length (strB [AV.val (Value.string { data := List.toArray s })]) ≤ (900000 : Nat),
   labO (strB [AV.val (Value.string { data := List.toArray s })]) = true,
   txtP (List.take (List.length (labL (strB [AV.val (Value.string { data := List.toArray s })]))) (rowsL (labL (strB [AV.val (Value.string { data := List.toArray s })])))) ∧ (1 : Nat) = (1 : Nat) ∧ (0 : Nat) + List.length (labL (strB [AV.val (Value.string { data := List.toArray s })])) ≤ List.length (rowsL (labL (strB [AV.val (Value.string { data := List.toArray s })]))),
   lsK (txtL (List.take (List.length (labL (strB [AV.val (Value.string { data := List.toArray s })]))) (rowsL (labL (strB [AV.val (Value.string { data := List.toArray s })]))))),
   (!goodN (txtL (List.take (List.length (labL (strB [AV.val (Value.string { data := List.toArray s })]))) (rowsL (labL (strB [AV.val (Value.string { data := List.toArray s })])))))) = false,
   (!goodN (txtL (List.take (List.length (labL (strB [AV.val (Value.string { data := List.toArray s })]))) (rowsL (labL (strB [AV.val (Value.string { data := List.toArray s })])))))) = false,
   txtP (List.take (List.length (labL (strB [AV.val (Value.string { data := List.toArray s })]))) (rowsL (labL (strB [AV.val (Value.string { data := List.toArray s })])))) ∧ (1 : Nat) = (1 : Nat) ∧ (0 : Nat) + List.length (labL (strB [AV.val (Value.string { data := List.toArray s })])) ≤ List.length (rowsL (labL (strB [AV.val (Value.string { data := List.toArray s })]))),
   lsK (txtL (List.take (List.length (labL (strB [AV.val (Value.string { data := List.toArray s })]))) (rowsL (labL (strB [AV.val (Value.string { data := List.toArray s })]))))),
   (!goodN (txtL (List.take (List.length (labL (strB [AV.val (Value.string { data := List.toArray s })]))) (rowsL (labL (strB [AV.val (Value.string { data := List.toArray s })])))))) = false,
   (!goodN (txtL (List.take (List.length (labL (strB [AV.val (Value.string { data := List.toArray s })]))) (rowsL (labL (strB [AV.val (Value.string { data := List.toArray s })])))))) = false,
   (!goodN (txtL (List.take (List.length (labL (strB [AV.val (Value.string { data := List.toArray s })]))) (rowsL (labL (strB [AV.val (Value.string { data := List.toArray s })])))))) = false,
   (!ByteArray.toList { data := List.toArray (textN (txtL (List.take (List.length (labL (strB [AV.val (Value.string { data := List.toArray s })]))) (rowsL (labL (strB [AV.val (Value.string { data := List.toArray s })])))))) } == ByteArray.toList { data := List.toArray s }) = false]) := by kernel_rfl
end Go.Proofs.Ytmilcpejchjleaa

/- A name's text that is read: what Parse yields. -/
namespace Go.Proofs.Ytmilcpejchjleaa
open Go.RowKit
set_option linter.unusedSimpArgs false

def parO (s : List UInt8) : Bool := labO s && goodN (labL s) && (textN (labL s) == s)

theorem parse_root (s : List UInt8) (h : s = [46]) : ACall Try.prog 43 [sStr s] [] 0 (.tup [nilS, iI 0]) [] 28 := by
  refine (outXS_ok (kPa_ok false) (pa_root s) ?_).upTo (by decide)
  rw [str_list]
  repeat' (first | exact allNil | refine allCons ?_ ?_)
  all_goals exact beq_iff_eq.2 h

theorem parse_bad (s : List UInt8) (h : s ≠ [46]) (hs : s.length ≤ 900000) (hp : parO s = false) : ACall Try.prog 43 [sStr s] [] 0 (.tup [nilS, iI 9]) [] 28 := by
  have e1 : strB [AV.val (Value.string { data := List.toArray s })] = s := strB_s s
  have h1 : (s == [46]) = false := by simpa using h
  have hk := labL_k s hs
  have ht := txtP_take (labL s)
  cases ho : labO s with
  | false =>
    refine (outXS_ok (kPa_ok false) (pa_none s) ?_).upTo (by decide)
    simp only [e1, str_list]
    repeat' (first | exact allNil | refine allCons ?_ ?_)
    all_goals first | exact h1 | exact hs | exact ho | (with_reducible rfl) | exact True.intro
  | true =>
    cases hg : goodN (labL s) with
    | false =>
      refine (outXS_ok (kPa_ok true) (pa_bad s) ?_).upTo (by decide)
      simp only [e1, str_list, txtL_take]
      repeat' (first | exact allNil | refine allCons ?_ ?_)
      all_goals first | exact h1 | exact hs | exact ho | exact ht | exact ⟨ht.1, True.intro, ht.2.2⟩ | exact hk | (with_reducible rfl) | exact True.intro | (simp [hg]; done)
    | true =>
      have h2 : (textN (labL s) == s) = false := by
        unfold parO at hp
        rw [ho, hg] at hp
        simpa using hp
      refine (outXS_ok (kPa_ok true) (pa_text s) ?_).upTo (by decide)
      simp only [e1, str_list, txtL_take]
      repeat' (first | exact allNil | refine allCons ?_ ?_)
      all_goals first | exact h1 | exact hs | exact ho | exact ht | exact ⟨ht.1, True.intro, ht.2.2⟩ | exact hk | (with_reducible rfl) | exact True.intro | (simp [hg]; done) | (rw [h2]; rfl)

theorem parse_ok (s : List UInt8) (h : s ≠ [46]) (hs : s.length ≤ 900000) (hp : parO s = true) : ACall Try.prog 43 [sStr s] [] 0 (.tup [.sl 0 0 (labL s).length none, iI 0]) [(0, objFlat 9 1 (rowsL (labL s)))] 1 := by
  have e1 : strB [AV.val (Value.string { data := List.toArray s })] = s := strB_s s
  have h1 : (s == [46]) = false := by simpa using h
  have hk := labL_k s hs
  have ht := txtP_take (labL s)
  unfold parO at hp
  simp only [Bool.and_eq_true] at hp
  obtain ⟨⟨ho, hg⟩, h2⟩ := hp
  have hh := outXS_ok (kPa_ok true) (pa_ok s) (by
    simp only [e1, str_list, txtL_take]
    repeat' (first | exact allNil | refine allCons ?_ ?_)
    all_goals first | exact h1 | exact hs | exact ho | exact ht | exact ⟨ht.1, True.intro, ht.2.2⟩ | exact hk | (with_reducible rfl) | exact True.intro | (simp [hg]; done) | (rw [h2]; rfl))
  rw [e1] at hh
  exact hh.to0 (by decide) (fun r => rfl) rfl rfl

/-- Parse, known: the root, refused, or a list -/
def kParse (way : Nat) : Inl := fun g xs L nx =>
  if g = 43 then
    match xs with
    | [x] =>
      if L.all (fun q => decide (q.1 < nx)) = true then
        if way = 0 then some (.tup [nilS, iI 0], L, nx + 28, [x = sStr (strB [x]), strB [x] = [46]])
        else if way = 1 then some (.tup [nilS, iI 9], L, nx + 28, [x = sStr (strB [x]), strB [x] ≠ [46], (strB [x]).length ≤ 900000, parO (strB [x]) = false])
        else some (.tup [.sl nx 0 (labL (strB [x])).length none, iI 0], (nx, objFlat 9 1 (rowsL (labL (strB [x])))) :: L, nx + 1, [x = sStr (strB [x]), strB [x] ≠ [46], (strB [x]).length ≤ 900000, parO (strB [x]) = true])
      else none
    | _ => none
  else none
theorem kParse_ok (way : Nat) : InlOk Try.prog (kParse way) := by
  intro g xs L nx v L' nx' q h hq
  unfold kParse at h
  split at h
  · rename_i hg
    subst hg
    split at h
    · rename_i x
      split at h
      · rename_i hlt
        split at h
        · simp only [Option.some.injEq, Prod.mk.injEq] at h
          obtain ⟨rfl, rfl, rfl, rfl⟩ := h
          simp only [List.forall_mem_cons, List.not_mem_nil, false_implies, implies_true, and_true] at hq
          obtain ⟨q1, q2⟩ := hq
          generalize strB [x] = s at *
          subst q1
          have := (parse_root s q2).fresh' (L := L) (nx := nx) (by rfl) (by rfl) (FrsL.cons (.free fun r => rfl) FrsL.nil) hlt
          exact ⟨this, by omega⟩
        · split at h
          · simp only [Option.some.injEq, Prod.mk.injEq] at h
            obtain ⟨rfl, rfl, rfl, rfl⟩ := h
            simp only [List.forall_mem_cons, List.not_mem_nil, false_implies, implies_true, and_true] at hq
            obtain ⟨q1, q2, q3, q4⟩ := hq
            generalize strB [x] = s at *
            subst q1
            have := (parse_bad s q2 q3 q4).fresh' (L := L) (nx := nx) (by rfl) (by rfl) (FrsL.cons (.free fun r => rfl) FrsL.nil) hlt
            exact ⟨this, by omega⟩
          · simp only [Option.some.injEq, Prod.mk.injEq] at h
            obtain ⟨rfl, rfl, rfl, rfl⟩ := h
            simp only [List.forall_mem_cons, List.not_mem_nil, false_implies, implies_true, and_true] at hq
            obtain ⟨q1, q2, q3, q4⟩ := hq
            generalize strB [x] = s at *
            subst q1
            have hpl : ([(0, objFlat 9 1 (rowsL (labL s)))] : List (Nat × AObj)).all (fun p => p.2.plB 9) = true := by
              simp [AObj.plB, objFlat, rowsL, AV.plB, sStr]
            have := (parse_ok s q2 q3 q4).fresh' (L := L) (nx := nx) (by rfl) hpl (FrsL.cons (.free fun r => rfl) FrsL.nil) hlt
            refine ⟨?_, by omega⟩
            simpa [AV.ren, renL, renH, ren_flat, plus, nilS, iI] using this
      · cases h
    · cases h
  · cases h

def kB (way : Nat) : Inl := orInl (kParse way) (orInl kEqf (orInl kTextP (orInl kGoodP (orInl kLong (orInl kExact kN)))))
theorem kB_ok (way : Nat) : InlOk Try.prog (kB way) := orInl_ok (kParse_ok way) (orInl_ok kEqf_ok (orInl_ok kTextP_ok (orInl_ok kGoodP_ok (orInl_ok kLong_ok (orInl_ok kExact_ok kN_ok)))))
def kB0 : Inl := kB 0
def kB1 : Inl := kB 1
def kB2 : Inl := kB 2
end Go.Proofs.Ytmilcpejchjleaa
