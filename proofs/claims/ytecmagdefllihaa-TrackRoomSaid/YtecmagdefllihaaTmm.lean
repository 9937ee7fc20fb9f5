/- Several texts in one: TmRun, Tm. -/
import Derived.Test.YtecmagdefllihaaKw

/- The table's clock, each way. (Printed by wip/tools/gen.py from wip/sym/XSTm.lean.) -/
namespace Go.Proofs.Ytecmagdefllihaa
open Go.RowKit

set_option maxRecDepth 100000 in
theorem time_a0 (lo : Int) (room : Int) (n0 : Int) (z : Int) (ex : Bool) (fz : Bool) : outT noneKnown [(62, { op := [(1, 9, .br false)], gd := [(1, 7, false), (1, 8, false)] })] Try.prog 62 [AV.ptr 0 0 0, AV.val (Value.int IntKind.i64 z)] [(0, { t := 109, sz := 4, exact := ex, fz := fz, body := Body.rows [[AV.val (Value.int IntKind.i64 lo), AV.val (Value.int IntKind.i64 room), AV.val (Value.int IntKind.i64 n0), AV.val (Value.slice none 0 0)]] })] 1 =
   some (AV.val (Value.int IntKind.i64 n0), [(0, { t := 109, sz := 4, exact := ex, fz := fz, body := Body.rows [[AV.val (Value.int IntKind.i64 lo), AV.val (Value.int IntKind.i64 room), AV.val (Value.int IntKind.i64 n0), AV.val (Value.slice none 0 0)]] })], 17,
   rp 3 (decide (z > n0) = false) ( [])) := by kernel_rfl

set_option maxRecDepth 100000 in
theorem time_b0 (lo : Int) (room : Int) (n0 : Int) (z : Int) (ex : Bool) (fz : Bool) : outT noneKnown [(62, { op := [(1, 9, .br true)], gd := [(1, 7, true), (1, 8, true)], br := [(14, false)] })] Try.prog 62 [AV.ptr 0 0 0, AV.val (Value.int IntKind.i64 z)] [(0, { t := 109, sz := 4, exact := ex, fz := fz, body := Body.rows [[AV.val (Value.int IntKind.i64 lo), AV.val (Value.int IntKind.i64 room), AV.val (Value.int IntKind.i64 n0), AV.val (Value.slice none 0 0)]] })] 1 =
   some (AV.val (Value.int IntKind.i64 n0), [(0, { t := 109, sz := 4, exact := ex, fz := fz, body := Body.rows [[AV.val (Value.int IntKind.i64 lo), AV.val (Value.int IntKind.i64 room), AV.val (Value.int IntKind.i64 n0), AV.val (Value.slice none 0 0)]] })], 17,
   rp 3 (decide (z > n0) = true) (
   (decide (z ≤ (1099511627776 : Int)) = false) :: [])) := by kernel_rfl

set_option maxRecDepth 100000 in
theorem time_c0 (lo : Int) (room : Int) (n0 : Int) (z : Int) (ex : Bool) (fz : Bool) : outT noneKnown [(62, { op := [(1, 9, .br true)], gd := [(1, 7, true), (1, 8, true)], br := [(14, true)] })] Try.prog 62 [AV.ptr 0 0 0, AV.val (Value.int IntKind.i64 z)] [(0, { t := 109, sz := 4, exact := ex, fz := fz, body := Body.rows [[AV.val (Value.int IntKind.i64 lo), AV.val (Value.int IntKind.i64 room), AV.val (Value.int IntKind.i64 n0), AV.val (Value.slice none 0 0)]] })] 1 =
   some (AV.val (Value.int IntKind.i64 z), [(0, { t := 109, sz := 4, exact := ex, fz := fz, body := Body.rows [[AV.val (Value.int IntKind.i64 lo), AV.val (Value.int IntKind.i64 room), AV.val (Value.int IntKind.i64 z), AV.val (Value.slice none 0 0)]] })], 22,
   rp 3 (decide (z > n0) = true) (
   (decide (z ≤ (1099511627776 : Int)) = true) :: [])) := by kernel_rfl

set_option maxRecDepth 100000 in
theorem time_a1 (lo : Int) (room : Int) (n0 : Int) (z : Int) (ex : Bool) (fz : Bool) (off : Nat) (n : Nat) : outT noneKnown [(62, { op := [(1, 9, .br false)], gd := [(1, 7, false), (1, 8, false)] })] Try.prog 62 [AV.ptr 0 0 0, AV.val (Value.int IntKind.i64 z)] [(0, { t := 109, sz := 4, exact := ex, fz := fz, body := Body.rows [[AV.val (Value.int IntKind.i64 lo), AV.val (Value.int IntKind.i64 room), AV.val (Value.int IntKind.i64 n0), AV.sl 1 off n none]] })] 2 =
   some (AV.val (Value.int IntKind.i64 n0), [(0, { t := 109, sz := 4, exact := ex, fz := fz, body := Body.rows [[AV.val (Value.int IntKind.i64 lo), AV.val (Value.int IntKind.i64 room), AV.val (Value.int IntKind.i64 n0), AV.sl 1 off n none]] })], 18,
   rp 3 (decide (z > n0) = false) ( [])) := by kernel_rfl

set_option maxRecDepth 100000 in
theorem time_b1 (lo : Int) (room : Int) (n0 : Int) (z : Int) (ex : Bool) (fz : Bool) (off : Nat) (n : Nat) : outT noneKnown [(62, { op := [(1, 9, .br true)], gd := [(1, 7, true), (1, 8, true)], br := [(14, false)] })] Try.prog 62 [AV.ptr 0 0 0, AV.val (Value.int IntKind.i64 z)] [(0, { t := 109, sz := 4, exact := ex, fz := fz, body := Body.rows [[AV.val (Value.int IntKind.i64 lo), AV.val (Value.int IntKind.i64 room), AV.val (Value.int IntKind.i64 n0), AV.sl 1 off n none]] })] 2 =
   some (AV.val (Value.int IntKind.i64 n0), [(0, { t := 109, sz := 4, exact := ex, fz := fz, body := Body.rows [[AV.val (Value.int IntKind.i64 lo), AV.val (Value.int IntKind.i64 room), AV.val (Value.int IntKind.i64 n0), AV.sl 1 off n none]] })], 18,
   rp 3 (decide (z > n0) = true) (
   (decide (z ≤ (1099511627776 : Int)) = false) :: [])) := by kernel_rfl

set_option maxRecDepth 100000 in
theorem time_c1 (lo : Int) (room : Int) (n0 : Int) (z : Int) (ex : Bool) (fz : Bool) (off : Nat) (n : Nat) : outT noneKnown [(62, { op := [(1, 9, .br true)], gd := [(1, 7, true), (1, 8, true)], br := [(14, true)] })] Try.prog 62 [AV.ptr 0 0 0, AV.val (Value.int IntKind.i64 z)] [(0, { t := 109, sz := 4, exact := ex, fz := fz, body := Body.rows [[AV.val (Value.int IntKind.i64 lo), AV.val (Value.int IntKind.i64 room), AV.val (Value.int IntKind.i64 n0), AV.sl 1 off n none]] })] 2 =
   some (AV.val (Value.int IntKind.i64 z), [(0, { t := 109, sz := 4, exact := ex, fz := fz, body := Body.rows [[AV.val (Value.int IntKind.i64 lo), AV.val (Value.int IntKind.i64 room), AV.val (Value.int IntKind.i64 z), AV.sl 1 off n none]] })], 23,
   rp 3 (decide (z > n0) = true) (
   (decide (z ≤ (1099511627776 : Int)) = true) :: [])) := by kernel_rfl
end Go.Proofs.Ytecmagdefllihaa

/- The table's clock: known to the engine. -/
namespace Go.Proofs.Ytecmagdefllihaa
open Go.RowKit

/-- a clock that does not fall -/
def tmW (n0 z : Int) : Int := if n0 < z ∧ z ≤ 1099511627776 then z else n0

def ptab (ex fz : Bool) (lo room n : Int) (l : AV) : AObj := ⟨109, 4, ex, fz, .rows [[.val (.int .i64 lo), .val (.int .i64 room), .val (.int .i64 n), l]]⟩

theorem time_c (l : AV) (k : Nat) (hk : (l = .val (.slice none 0 0) ∧ k = 1) ∨ (∃ off n, l = .sl 1 off n none ∧ k = 2)) (lo room n0 z : Int) (ex fz : Bool) :
    ∃ n1, k ≤ n1 ∧ n1 ≤ 30 ∧ ACall Try.prog 62 [.ptr 0 0 0, .val (.int .i64 z)] [(0, ptab ex fz lo room n0 l)] k (.val (.int .i64 (tmW n0 z))) [(0, ptab ex fz lo room (tmW n0 z) l)] n1 := by
  have key : ∀ (v : Int) (n1 : Nat), tmW n0 z = v → k ≤ n1 → n1 ≤ 30 → ACall Try.prog 62 [.ptr 0 0 0, .val (.int .i64 z)] [(0, ptab ex fz lo room n0 l)] k (.val (.int .i64 v)) [(0, ptab ex fz lo room v l)] n1 →
      ∃ n1, k ≤ n1 ∧ n1 ≤ 30 ∧ ACall Try.prog 62 [.ptr 0 0 0, .val (.int .i64 z)] [(0, ptab ex fz lo room n0 l)] k (.val (.int .i64 (tmW n0 z))) [(0, ptab ex fz lo room (tmW n0 z) l)] n1 := fun v n1 h h1 h2 h3 => ⟨n1, h1, h2, by rw [h]; exact h3⟩
  rcases hk with ⟨rfl, rfl⟩ | ⟨off, n, rfl, rfl⟩
  · by_cases h1 : n0 < z
    · by_cases h2 : z ≤ 1099511627776
      · exact key _ _ (if_pos ⟨h1, h2⟩) (by decide) (by decide) (outT_ok noneKnown_ok (time_c0 lo room n0 z ex fz) (allRp _ (by simpa using h1) (allCons (by simpa using h2) allNil))).1
      · exact key _ _ (if_neg fun h => h2 h.2) (by decide) (by decide) (outT_ok noneKnown_ok (time_b0 lo room n0 z ex fz) (allRp _ (by simpa using h1) (allCons (by simpa using h2) allNil))).1
    · exact key _ _ (if_neg fun h => h1 h.1) (by decide) (by decide) (outT_ok noneKnown_ok (time_a0 lo room n0 z ex fz) (allRp _ (by simpa using h1) allNil)).1
  · by_cases h1 : n0 < z
    · by_cases h2 : z ≤ 1099511627776
      · exact key _ _ (if_pos ⟨h1, h2⟩) (by decide) (by decide) (outT_ok noneKnown_ok (time_c1 lo room n0 z ex fz off n) (allRp _ (by simpa using h1) (allCons (by simpa using h2) allNil))).1
      · exact key _ _ (if_neg fun h => h2 h.2) (by decide) (by decide) (outT_ok noneKnown_ok (time_b1 lo room n0 z ex fz off n) (allRp _ (by simpa using h1) (allCons (by simpa using h2) allNil))).1
    · exact key _ _ (if_neg fun h => h1 h.1) (by decide) (by decide) (outT_ok noneKnown_ok (time_a1 lo room n0 z ex fz off n) (allRp _ (by simpa using h1) allNil)).1

def kTime : Inl := fun g xs L nx =>
  if g = 62 then
    match xs with
    | [.ptr id 0 0, .val (.int .i64 z)] =>
      match hp L id with
      | some ⟨t, 4, ex, fz, .rows [[.val (.int .i64 lo), .val (.int .i64 room), .val (.int .i64 n0), .val (.slice none 0 0)]]⟩ =>
        if t = 109 ∧ id < nx then some (.val (.int .i64 (tmW n0 z)), [(id, ptab ex fz lo room (tmW n0 z) (.val (.slice none 0 0)))] ++ L.filter fun p => ![id].contains p.1, nx + 29, []) else none
      | some ⟨t, 4, ex, fz, .rows [[.val (.int .i64 lo), .val (.int .i64 room), .val (.int .i64 n0), .sl id2 off n none]]⟩ =>
        if t = 109 ∧ id < nx ∧ id2 < nx ∧ id ≠ id2 then some (.val (.int .i64 (tmW n0 z)), [(id, ptab ex fz lo room (tmW n0 z) (.sl id2 off n none))] ++ L.filter fun p => ![id, id2].contains p.1 || p.1 == id2, nx + 28, []) else none
      | _ => none
    | _ => none
  else none

theorem kTime_ok : InlOk Try.prog kTime := by
  intro g xs L nx v L' nx' q h hq
  unfold kTime at h
  split at h
  · rename_i hg
    subst hg
    split at h
    · rename_i id z
      split at h
      · rename_i t ex fz lo room n0 h1
        split at h
        · rename_i hc
          obtain ⟨rfl, hc⟩ := hc
          simp only [Option.some.injEq, Prod.mk.injEq] at h
          obtain ⟨rfl, rfl, rfl, rfl⟩ := h
          refine ⟨?_, by omega⟩
          obtain ⟨n1, hn1, hn2, hcall⟩ := time_c (.val (.slice none 0 0)) 1 (.inl ⟨rfl, rfl⟩) lo room n0 z ex fz
          have := ACall.used (ids := [id]) (K := L) (nx := nx) (hcall : ACall Try.prog _ _ _ [id].length _ _ n1) (by simp) (by simp [hc]) hn1 (fun m x hm => ?_)
          · refine ACall.up (n1 := nx + (n1 - 1)) ?_ (by omega)
            simpa [renL, AV.ren, renN, renH, AObj.ren, ptab] using this
          · simp only [hp] at hm
            by_cases e0 : m = 0
            · subst e0
              simp at hm
              subst hm
              exact ⟨by simp, by simpa [renN, AObj.ren, ptab, renL, AV.ren] using h1⟩
            · rw [if_neg e0] at hm; cases hm
        · cases h
      · rename_i t ex fz lo room n0 id2 off n h1
        split at h
        · rename_i hc
          obtain ⟨rfl, hc⟩ := hc
          simp only [Option.some.injEq, Prod.mk.injEq] at h
          obtain ⟨rfl, rfl, rfl, rfl⟩ := h
          refine ⟨?_, by omega⟩
          obtain ⟨n1, hn1, hn2, hcall⟩ := time_c (.sl 1 off n none) 2 (.inr ⟨off, n, rfl, rfl⟩) lo room n0 z ex fz
          have := ACall.ren (ids := [id, id2]) (nx := nx) (hcall : ACall Try.prog _ _ _ [id, id2].length _ _ n1) (by simp [hc.2.2]) (by simp [hc.1, hc.2.1]) hn1
          have h2 := this.frame (K := L) (K' := [(id, ptab ex fz lo room (tmW n0 z) (.sl id2 off n none))] ++ L.filter fun p => ![id, id2].contains p.1 || p.1 == id2) (fun k x hk => ?_) (fun k x hk => ?_)
          · refine ACall.up (n1 := nx + (n1 - 2)) ?_ (by omega)
            simpa [renL, AV.ren, renN, renH, AObj.ren, ptab] using h2
          · simp only [renH, hp, renN, List.getD_cons_zero] at hk
            by_cases e : k = id
            · subst e
              rw [if_pos rfl] at hk
              injection hk with hk
              rw [← hk, h1]
              simp [AObj.ren, ptab, renL, AV.ren, renN]
            · rw [if_neg e] at hk; cases hk
          · simp only [List.singleton_append, hp] at hk
            by_cases e : k = id
            · subst e
              left
              rw [if_pos rfl] at hk
              rw [← hk]
              simp [renH, hp, renN, AObj.ren, ptab, renL, AV.ren]
            · rw [if_neg e] at hk
              right
              obtain ⟨_, h3⟩ := hp_filter (fun k => ![id, id2].contains k || k == id2) L k x hk
              refine ⟨h3, ?_⟩
              simp [renH, hp, renN, e]
        · cases h
      · cases h
    · cases h
  · cases h

def kTT : Inl := orInl kTime kT
theorem kTT_ok : InlOk Try.prog kTT := orInl_ok kTime_ok kT_ok
end Go.Proofs.Ytecmagdefllihaa
