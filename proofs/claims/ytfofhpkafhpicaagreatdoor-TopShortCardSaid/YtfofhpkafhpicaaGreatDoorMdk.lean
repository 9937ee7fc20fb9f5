/- Several texts in one: Dk, Sv, Ak. -/
import Derived.Test.YtfofhpkafhpicaaGreatDoorUp
import Derived.Test.YtfofhpkafhpicaaGreatDoorMst
import Derived.Test.YtfofhpkafhpicaaGreatDoorMkt

/- What is known of the beginning of every law of the whole gateway: its two closed calls; sums that are called by names. -/
namespace Go.Proofs.YtfofhpkafhpicaaGreatDoor
open Go.RowKit
set_option linter.unusedSimpArgs false
set_option linter.unusedVariables false

def kUp : Inl := kCC [upC1, upC22]
theorem kUp_ok : InlOk Tryz.prog kUp := kCC_ok fun c hc => by
  simp only [List.mem_cons, List.not_mem_nil, or_false] at hc
  rcases hc with rfl | rfl
  · exact upC1_is
  · exact upC22_is
theorem fits_walk (v m : Int) (w : World) :
    Calls Tryz.prog 180 #[.int .i64 v, .int .i64 m] w fun e w' => e = .returned (.bool (decide (0 ≤ v) && decide (v ≤ m))) ∧ Below w.heap.size w w' := by
  by_cases h1 : 0 ≤ v
  · by_cases h2 : v ≤ m
    all_goals
      go_enter Tryz.func180, Tryz.ntmps180
      go_wp2
      go_ret
      exact ⟨by simp [h1, h2], Below.refl _ _⟩
  · have h3 : decide (0 ≤ v) = false := by simpa using h1
    go_enter Tryz.func180, Tryz.ntmps180
    go_wp2
    go_ret
    exact ⟨by simp, Below.refl _ _⟩
/-- does a number fit? -/
def kFits : Inl := fun g xs L nx =>
  if g = 180 then
    match xs with
    | [.val (.int .i64 v), .val (.int .i64 m)] => some (.val (.bool (decide (0 ≤ v) && decide (v ≤ m))), L, nx, [])
    | _ => none
  else none
theorem kFits_ok : InlOk Tryz.prog kFits := by
  intro g xs L nx v L' nx' q h hq
  unfold kFits at h
  split at h
  · rename_i hg
    subst hg
    split at h
    · rename_i u m
      simp only [Option.some.injEq, Prod.mk.injEq] at h
      obtain ⟨rfl, rfl, rfl, rfl⟩ := h
      refine ⟨ACall.plain fun E w vs hs hr => ?_, Nat.le_refl _⟩
      obtain ⟨x, y, rfl, r1, r2⟩ := reps2 hr
      obtain rfl := r1.val_inv
      obtain rfl := r2.val_inv
      exact fits_walk u m w
    · cases h
  · cases h
def kDead0 : Inl := orInl kFits (orInl kSumC (orInl kRdV (orInl kLib kUp)))
theorem kDead0_ok : InlOk Tryz.prog kDead0 := orInl_ok kFits_ok (orInl_ok kSumC_ok (orInl_ok kRdV_ok (orInl_ok kLib_ok kUp_ok)))
def kDead (s1 s2 : Int) : Inl := orInl (kOf s1 s2) kDead0
theorem kDead_ok (s1 s2 : Int) : InlOk Tryz.prog (kDead s1 s2) := orInl_ok (kOf_ok s1 s2) kDead0_ok
end Go.Proofs.YtfofhpkafhpicaaGreatDoor

/- A reader's numbers, by the bytes themselves: where these are numerals the kernel reckons with numerals (kRdV names places of the whole list, among which variables may stand). -/
namespace Go.Proofs.YtfofhpkafhpicaaGreatDoor
open Go.RowKit
set_option linter.unusedSimpArgs false
set_option linter.unusedVariables false

def u8L : List UInt8 → Nat
  | a :: _ => a.toNat
  | _ => 0
def u16L : List UInt8 → Nat
  | a :: b :: _ => a.toNat * 256 + b.toNat
  | _ => 0
def u32L : List UInt8 → Nat
  | a :: b :: c :: d :: _ => ((a.toNat * 256 + b.toNat) * 256 + c.toNat) * 256 + d.toNat
  | _ => 0
theorem drop_get (ys : List UInt8) (off : Nat) (h : off < ys.length) : ys.drop off = ys.getD off 0 :: ys.drop (off + 1) := by
  rw [List.drop_eq_getElem_cons h, List.getD_eq_getElem?_getD, List.getElem?_eq_getElem h]
  rfl
theorem u8L_eq (ys : List UInt8) (off : Nat) (h : off + 1 ≤ ys.length) : u8L (ys.drop off) = (ys.getD off 0).toNat := by
  rw [drop_get ys off (by omega)]; rfl
theorem u16L_eq (ys : List UInt8) (off : Nat) (h : off + 2 ≤ ys.length) : u16L (ys.drop off) = (ys.getD off 0).toNat * 256 + (ys.getD (off + 1) 0).toNat := by
  rw [drop_get ys off (by omega), drop_get ys (off + 1) (by omega)]; rfl
theorem u32L_eq (ys : List UInt8) (off : Nat) (h : off + 4 ≤ ys.length) : u32L (ys.drop off) = (((ys.getD off 0).toNat * 256 + (ys.getD (off + 1) 0).toNat) * 256 + (ys.getD (off + 2) 0).toNat) * 256 + (ys.getD (off + 3) 0).toNat := by
  rw [drop_get ys off (by omega), drop_get ys (off + 1) (by omega), drop_get ys (off + 1 + 1) (by omega), drop_get ys (off + 1 + 1 + 1) (by omega)]; rfl
/-- what a reader reads -/
def rdW (g : FuncId) (ys : List UInt8) (off : Nat) : AV :=
  if g = 291 then .val (.int .i64 ((u8L (ys.drop off) : Nat) : Int))
  else if g = 184 then .val (.int .i64 ((u16L (ys.drop off) : Nat) : Int))
  else .val (.int .u32 ((u32L (ys.drop off) : Nat) : Int))
theorem rdW_eq (g : FuncId) (hg : g = 291 ∨ g = 184 ∨ g = 292) (ys : List UInt8) (off : Nat) (h : off + rdK g ≤ ys.length) : rdW g ys off = rdU g ys off := by
  unfold rdW rdU
  unfold rdK at h
  rcases hg with rfl | rfl | rfl
  · rw [if_pos rfl] at h
    rw [if_pos rfl, if_pos rfl, u8L_eq ys off h]
  · rw [if_neg (by decide), if_pos rfl] at h
    rw [if_neg (by decide), if_pos rfl, if_neg (by decide), if_pos rfl, u16L_eq ys off h]
  · rw [if_neg (by decide), if_neg (by decide)] at h
    rw [if_neg (by decide), if_neg (by decide), if_neg (by decide), if_neg (by decide), u32L_eq ys off h]
def kRdW : Inl := fun g xs L nx =>
  if g = 291 ∨ g = 184 ∨ g = 292 then
    match xs with
    | [.ptr id 0 0] =>
      match hp L id with
      | some ⟨t1, 2, x1, z1, .rows [[.sl id2 off n none, .val (.bool false)]]⟩ =>
        match hp L id2 with
        | some ⟨t2, 1, x2, z2, .bytes ys⟩ =>
          if id < nx ∧ id2 < nx ∧ id ≠ id2 then
            if rdK g ≤ n ∧ off + n ≤ ys.length then
              some (rdW g ys off,
                [(id2, ⟨t2, 1, x2, z2, .bytes ys⟩), (id, ⟨t1, 2, x1, z1, .rows [[.sl id2 (off + rdK g) (n - rdK g) none, .val (.bool false)]]⟩)] ++ L.filter fun p => ![id, id2].contains p.1, nx + 100, [])
            else none
          else none
        | _ => none
      | _ => none
    | _ => none
  else none
theorem kRdW_ok : InlOk Tryz.prog kRdW := by
  intro g xs L nx v L' nx' q h hq
  unfold kRdW at h
  split at h
  · rename_i hg
    split at h
    · rename_i id
      split at h
      · rename_i t1 x1 z1 id2 off n h1
        split at h
        · rename_i t2 x2 z2 ys h2
          split at h
          · rename_i h3
            split at h
            · rename_i h4
              simp only [Option.some.injEq, Prod.mk.injEq] at h
              obtain ⟨rfl, rfl, rfl, rfl⟩ := h
              refine ⟨?_, by omega⟩
              rw [rdW_eq g hg ys off (by omega)]
              exact (kRdU_ok g [.ptr id 0 0] L nx _ _ _ [rdK g ≤ n, off + n ≤ ys.length] (by unfold kRdU; simp only [if_pos hg, h1, h2, if_pos h3]) fun p hp => by
                simp only [List.mem_cons, List.not_mem_nil, or_false] at hp
                rcases hp with rfl | rfl
                · exact h4.1
                · exact h4.2).1
            · cases h
          · cases h
        · cases h
      · cases h
    · cases h
  · cases h
end Go.Proofs.YtfofhpkafhpicaaGreatDoor

/- What is known in an act of the whole gateway: sums (called by names where these are told by the number at which they are called), readers by the bytes. -/
namespace Go.Proofs.YtfofhpkafhpicaaGreatDoor
open Go.RowKit

/-- a number's name, by the place where it is reckoned -/
def namedAt (ns : List (Nat × Int)) (k : Inl) : Inl := fun g xs L nx =>
  match k g xs L nx with
  | some (.val (.int .i64 z), L', n', q) =>
    match ns.find? fun p => Nat.beq p.1 nx with
    | some p => some (.val (.int .i64 p.2), L', n', (z = p.2) :: q)
    | none => some (.val (.int .i64 z), L', n', q)
  | r => r
theorem namedAt_ok {P : Program} (ns : List (Nat × Int)) {k : Inl} (hk : InlOk P k) : InlOk P (namedAt ns k) := by
  intro g xs L nx v L' nx' q h hq
  unfold namedAt at h
  split at h
  · rename_i z L1 n1 q1 h1
    split at h
    · rename_i p hp
      simp only [Option.some.injEq, Prod.mk.injEq] at h
      obtain ⟨rfl, rfl, rfl, rfl⟩ := h
      have e : z = p.2 := hq _ List.mem_cons_self
      rw [← e]
      exact hk g xs L nx _ _ _ _ h1 fun r hr => hq r (List.mem_cons_of_mem _ hr)
    · simp only [Option.some.injEq, Prod.mk.injEq] at h
      obtain ⟨rfl, rfl, rfl, rfl⟩ := h
      exact hk g xs L nx _ _ _ _ h1 hq
  · exact hk g xs L nx _ _ _ _ h hq
def kAct0 : Inl := orInl kFits (orInl kSumC (orInl kRdW (orInl kLib kUp)))
theorem kAct0_ok : InlOk Tryz.prog kAct0 := orInl_ok kFits_ok (orInl_ok kSumC_ok (orInl_ok kRdW_ok (orInl_ok kLib_ok kUp_ok)))
def kAct (ns : List (Nat × Int)) : Inl := orInl kFits (orInl (namedAt ns kSumC) (orInl kRdW (orInl kLib kUp)))
theorem kAct_ok (ns : List (Nat × Int)) : InlOk Tryz.prog (kAct ns) := orInl_ok kFits_ok (orInl_ok (namedAt_ok ns kSumC_ok) (orInl_ok kRdW_ok (orInl_ok kLib_ok kUp_ok)))
end Go.Proofs.YtfofhpkafhpicaaGreatDoor
