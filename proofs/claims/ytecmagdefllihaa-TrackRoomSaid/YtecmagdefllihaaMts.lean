/- Several texts in one: Uw0, Ts, Tt0, Tu0, Tu1. -/
import Derived.Test.YtecmagdefllihaaOm
import Derived.Test.YtecmagdefllihaaMtr
import Derived.Test.YtecmagdefllihaaKw

/- A contract that turns nothing, used at other numbers: what was there is there, as it stood. -/
namespace Go.Proofs.Ytecmagdefllihaa
open Go.RowKit

theorem hp_app_of {A B : List (Nat × AObj)} {k : Nat} {x : AObj} : hp A k = some x → hp (A ++ B) k = some x := by
  induction A with
  | nil => intro h; cases h
  | cons a A ih =>
    intro h
    simp only [List.cons_append, hp] at h ⊢
    split
    · rename_i c; rw [if_pos c] at h; exact h
    · rename_i c; rw [if_neg c] at h; exact ih h
theorem hp_app_none {A B : List (Nat × AObj)} {k : Nat} : hp A k = none → hp (A ++ B) k = hp B k := by
  induction A with
  | nil => intro _; rfl
  | cons a A ih =>
    intro h
    simp only [List.cons_append, hp] at h ⊢
    split
    · rename_i c; rw [if_pos c] at h; cases h
    · rename_i c; rw [if_neg c] at h; exact ih h

theorem ACall.usedW {P : Program} {g : FuncId} {xs : List AV} {M K : List (Nat × AObj)} {n1 : Nat} {v : AV} {ids : List Nat} (h : ACall P g xs M ids.length v M n1) {nx : Nat} (hnd : ids.Nodup) (hlt : ∀ i ∈ ids, i < nx) (hle : ids.length ≤ n1)
    (hL : ∀ k x, hp M k = some x → k < ids.length ∧ hp K (renN ids nx k) = some (x.ren (renN ids nx))) (hc : ∀ k, k < ids.length → ∃ x, hp M k = some x) (hv : v.ren (renN ids nx) = v) :
    ACall P g (renL (renN ids nx) xs) K nx v K (nx + (n1 - ids.length)) := by
  have inj : ∀ i j, renN ids nx i = renN ids nx j → i = j := renN_inj hnd hlt
  have u := ACall.used h hnd hlt hle hL
  rw [hv] at u
  refine u.weak fun id o ho => ?_
  by_cases hi : id ∈ ids
  · obtain ⟨k, hk, e⟩ := List.getElem_of_mem hi
    have er : renN ids nx k = id := by
      unfold renN
      rw [List.getD_eq_getElem?_getD, List.getElem?_eq_getElem hk, Option.getD_some, e]
    obtain ⟨x, hx⟩ := hc k hk
    have h1 := (hL k x hx).2
    rw [er, ho] at h1
    refine hp_app_of ?_
    rw [← er, hp_renH inj, hx, h1]
    rfl
  · have hn : hp (renH (renN ids nx) M) id = none := by
      cases h1 : hp (renH (renN ids nx) M) id with
      | none => rfl
      | some y =>
        obtain ⟨k, x, h2, _, h3⟩ := hp_renH_inv inj _ _ _ h1
        have hk := (hL k x h3).1
        exact absurd (by rw [h2]; unfold renN; rw [List.getD_eq_getElem?_getD, List.getElem?_eq_getElem hk, Option.getD_some]; exact List.getElem_mem hk) hi
    rw [hp_app_none hn, hp_filter_of (fun k => !ids.contains k) K id (by simpa using hi)]
    exact ho
end Go.Proofs.Ytecmagdefllihaa

/- Looking for a talk in a table: known at any numbers. -/
namespace Go.Proofs.Ytecmagdefllihaa
open Go.RowKit
set_option linter.unusedSimpArgs false
set_option linter.unusedVariables false

/-- the talks that rows tell -/
def tal : List (List AV) → List (Int × Int)
  | [] => []
  | r :: l => (match r with | .val (.int .i64 o) :: _ :: _ :: _ :: _ :: _ :: .val (.int .i64 s) :: _ => (o, s) | _ => (0, 0)) :: tal l
theorem tal_trows : ∀ l : List (Int × Int), tal (trows l) = l
  | [] => rfl
  | x :: l => by
    show (x.1, x.2) :: tal (trows l) = _
    rw [tal_trows l]

def kIx : Inl := fun g xs L nx =>
  if g = 77 then
    match xs with
    | [.sl id 0 n none, .fn (.func f) [.ptr i1 0 0, .ptr i2 0 0, .ptr i3 0 0]] =>
      if f = 78 ∧ nodupB [id, i1, i2, i3] = true ∧ id < nx ∧ i1 < nx ∧ i2 < nx ∧ i3 < nx then
        match hp L id, hp L i1, hp L i2, hp L i3 with
        | some ⟨t0, 8, false, false, .flat l⟩, some ⟨t1, 1, true, false, .rows [[.val (.int .i64 o)]]⟩, some ⟨t2, 4, true, false, .rows [[.val (.int .u8 8), .val (.int .u8 8), .val (.int .u8 8), .val (.int .u8 1)]]⟩, some ⟨t3, 1, true, false, .rows [[.val (.int .i64 80)]]⟩ =>
          if t0 = 92 ∧ t1 = 3 ∧ t2 = 29 ∧ t3 = 3 then some (i64 (fIx o (tal l) 0), L, nx + 1, [l = trows (tal l), n = l.length, n ≤ 1000000]) else none
        | _, _, _, _ => none
      else none
    | _ => none
  else none

theorem ren_tr (r : Nat → Nat) (l : List (Int × Int)) : (tObj l).ren r = tObj l := by
  unfold tObj AObj.ren
  simp only
  congr 2
  unfold trows
  rw [List.map_map]
  exact List.map_congr_left fun e _ => rfl

theorem kIx_ok : InlOk Try.prog kIx := by
  intro g xs L nx v L' nx' q h hq
  unfold kIx at h
  split at h
  · rename_i hg
    subst hg
    split at h
    · rename_i id n f i1 i2 i3
      split at h
      · rename_i hc
        split at h
        · rename_i t0 l t1 o t2 t3 q0 q1 q2 q3
          split at h
          · rename_i ht
            simp only [Option.some.injEq, Prod.mk.injEq] at h
            obtain ⟨rfl, rfl, rfl, rfl⟩ := h
            obtain ⟨rfl, rfl, rfl, rfl⟩ := ht
            obtain ⟨rfl, hnd, c0, c1, c2, c3⟩ := hc
            simp only [List.forall_mem_cons, List.not_mem_nil, false_implies, implies_true, and_true] at hq
            obtain ⟨e1, rfl, hn⟩ := hq
            refine ⟨?_, by omega⟩
            have hl : (tal l).length = l.length := by rw [← trows_len (tal l), ← e1]
            have k := ix_call (tal l) o (by omega)
            have u := ACall.usedW (ids := [id, i1, i2, i3]) (K := L) (nx := nx) (k : ACall Try.prog _ _ _ [id, i1, i2, i3].length _ _ 5) (nodupB_ok hnd) (by simp [c0, c1, c2, c3]) (by simp) (fun m x hm => ?_) (fun m hm => ?_) rfl
            · rw [hl] at u
              exact u
            · simp only [hp] at hm
              split at hm
              · rename_i e; subst e; injection hm with hm; subst hm
                exact ⟨by simp, by rw [ren_tr]; simp only [renN, List.getD_cons_zero]; rw [q0, e1]; simp only [tObj]; rw [tal_trows]⟩
              · split at hm
                · rename_i e; subst e; injection hm with hm; subst hm
                  exact ⟨by simp, q1⟩
                · split at hm
                  · rename_i e; subst e; injection hm with hm; subst hm
                    exact ⟨by simp, q2⟩
                  · split at hm
                    · rename_i e; subst e; injection hm with hm; subst hm
                      exact ⟨by simp, q3⟩
                    · cases hm
            · match m, hm with
              | 0, _ => exact ⟨_, rfl⟩
              | 1, _ => exact ⟨_, rfl⟩
              | 2, _ => exact ⟨_, rfl⟩
              | 3, _ => exact ⟨_, rfl⟩
          · cases h
        · cases h
      · cases h
    · cases h
  · cases h

def kIy : Inl := fun g xs L nx =>
  if g = 77 then
    match xs with
    | [.sl id 0 n none, .fn (.func f) []] =>
      if f = 79 ∧ id < nx then
        match hp L id with
        | some ⟨t0, 8, false, false, .flat l⟩ =>
          if t0 = 92 then some (i64 (fIy (tal l) 0), L, nx + 1, [l = trows (tal l), n = l.length, n ≤ 1000000, 0 ≤ fIy (tal l) 0]) else none
        | _ => none
      else none
    | _ => none
  else none
theorem kIy_ok : InlOk Try.prog kIy := by
  intro g xs L nx v L' nx' q h hq
  unfold kIy at h
  split at h
  · rename_i hg
    subst hg
    split at h
    · rename_i id n f
      split at h
      · rename_i hc
        split at h
        · rename_i t0 l q0
          split at h
          · rename_i ht
            simp only [Option.some.injEq, Prod.mk.injEq] at h
            obtain ⟨rfl, rfl, rfl, rfl⟩ := h
            subst ht
            obtain ⟨rfl, c0⟩ := hc
            simp only [List.forall_mem_cons, List.not_mem_nil, false_implies, implies_true, and_true] at hq
            obtain ⟨e1, rfl, hn, hz⟩ := hq
            refine ⟨?_, by omega⟩
            have hl : (tal l).length = l.length := by rw [← trows_len (tal l), ← e1]
            have ez : fIy (tal l) 0 = ((fIy (tal l) 0).toNat : Int) := by omega
            have k := iy_call (tal l) _ (by omega) ez
            rw [← ez] at k
            have u := ACall.usedW (ids := [id]) (K := L) (nx := nx) (k : ACall Try.prog _ _ _ [id].length _ _ 2) (by simp) (by simp [c0]) (by simp) (fun m x hm => ?_) (fun m hm => ?_) rfl
            · rw [hl] at u
              exact u
            · simp only [hp] at hm
              split at hm
              · rename_i e; subst e; injection hm with hm; subst hm
                exact ⟨by simp, by rw [ren_tr]; simp only [renN, List.getD_cons_zero]; rw [q0, e1]; simp only [tObj]; rw [tal_trows]⟩
              · cases hm
            · match m, hm with
              | 0, _ => exact ⟨_, rfl⟩
          · cases h
        · cases h
      · cases h
    · cases h
  · cases h
def kTr : Inl := orInl kIx kIy
theorem kTr_ok : InlOk Try.prog kTr := orInl_ok kIx_ok kIy_ok
end Go.Proofs.Ytecmagdefllihaa

/- The law TrackRoom: what is so at its loops' heads. -/
namespace Go.Proofs.Ytecmagdefllihaa
open Go.RowKit

/-- talks of the ports below i, each begun -/
def begunT (i : Nat) : List (Int × Int) := (List.range i).map fun k : Nat => ((k : Int), (1 : Int))
def tabO (room : Int) (n : Nat) : AObj := objOne 88 [i64 room, .sl 1 0 n none]
def tabZ (room : Int) : AObj := objOne 88 [i64 room, .val (.slice none 0 0)]
def trG0 (room over : Int) : GoalX := { len := 86, tms := [(7, .ptr 0 0 0)], opn := [(0, i64 room), (1, i64 over), (9, i64 0)], oob := [(0, tabZ room)], k := 1 }
def trG (room over : Int) (i : Nat) (l : List (Int × Int)) : GoalX := { len := 86, tms := [(7, .ptr 0 0 0)], opn := [(0, i64 room), (1, i64 over), (9, i64 i)], oob := [(0, tabO room l.length), (1, tObj l)], k := 2 }
def trE (room over : Int) (l : List (Int × Int)) : GoalX := { len := 86, tms := [(7, .ptr 0 0 0)], opn := [(0, i64 room), (1, i64 over)], oob := [(0, tabO room l.length), (1, tObj l)], k := 2 }
def trL (room over : Int) (l : List (Int × Int)) : LoopX := { ids := [0], G := trG0 room over, ex := .exit 0, E := trE room over l }
def tr1 : AObj := objAppR 92 8 [trow (0, 1)]
def trG1 (room over : Int) : GoalX := { len := 86, tms := [(7, .ptr 0 0 0)], opn := [(0, i64 room), (1, i64 over), (9, i64 1)], oob := [(0, tabO room 1), (1, tr1)], k := 2 }
def tsG (room over : Int) (i : Nat) (l : List (Int × Int)) : GoalX := { len := 86, tms := [(7, .ptr 0 0 0)], opn := [(0, i64 room), (1, i64 over), (10, i64 i)], oob := [(0, tabO room l.length), (1, tObj l)], k := 2 }
def tsE (room : Int) (l : List (Int × Int)) : GoalX := { len := 86, tms := [(7, .ptr 0 0 0)], opn := [(0, i64 room)], oob := [(0, tabO room l.length), (1, tObj l)], k := 2 }
end Go.Proofs.Ytecmagdefllihaa

/- The law TrackRoom: its second loop, what is known. -/
namespace Go.Proofs.Ytecmagdefllihaa
open Go.RowKit

def tsL (room over : Int) (k : List (Int × Int)) (id : Nat) : LoopX := { ids := [0, id], G := tsG room over 0 k, ex := .exit 2, E := tsE room k }
def trLL (room over : Int) (l : List (Int × Int)) (id : Nat) : LoopX := { ids := [id], G := trG0 room over, ex := .exit 0, E := trE room over l }
def kRm : Inl := orInl kAw kTr
theorem kRm_ok : InlOk Try.prog kRm := orInl_ok kAw_ok kTr_ok
end Go.Proofs.Ytecmagdefllihaa

/- The law TrackRoom: words for what its run holds. -/
namespace Go.Proofs.Ytecmagdefllihaa
open Go.RowKit
/-- the rows when one is over; which goes; the one behind it -/
def rwO (l : List (Int × Int)) (over : Int) : List (List AV) := List.set (trows l) (0 + Int.toNat (fIx over (tal (trows l)) 0)) (trow (over, 6))
def exO (l : List (Int × Int)) (over : Int) : Int := if (0 : Int) > fIy (tal (rwO l over)) 0 then (0 : Int) else fIy (tal (rwO l over)) 0
def e1O (l : List (Int × Int)) (over : Int) : Int := IntKind.wrap IntKind.i64 (exO l over + (1 : Int))
end Go.Proofs.Ytecmagdefllihaa
