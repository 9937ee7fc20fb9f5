/- An engine for walks: what holds of a call's objects under some numbers holds under others. -/
import Derived.Test.YtecmagdefllihaaEm
namespace Go.Proofs.Ytecmagdefllihaa
open Go.RowKit

mutual
def AV.ren (r : Nat → Nat) : AV → AV
  | .val v => .val v
  | .any => .any
  | .ptr id i j => .ptr (r id) i j
  | .iptr l => .iptr (renL r l)
  | .sl id off n lim => .sl (r id) off n lim
  | .csl id i j n c => .csl (r id) i j n c
  | .bytes xs => .bytes xs
  | .view sz n g => .view sz n fun i => renL r (g i)
  | .agg l => .agg (renL r l)
  | .tup l => .tup (renL r l)
  | .fn f l => .fn f (renL r l)
  | .opt b v => .opt b (v.ren r)
def renL (r : Nat → Nat) : List AV → List AV
  | [] => []
  | x :: l => x.ren r :: renL r l
end

theorem renL_map (r : Nat → Nat) : ∀ l : List AV, renL r l = l.map (AV.ren r)
  | [] => by simp [renL]
  | x :: l => by simp [renL, renL_map r l]

theorem renL_get (r : Nat → Nat) (l : List AV) (k : Nat) : (renL r l)[k]? = (l[k]?).map (AV.ren r) := by rw [renL_map]; simp
theorem renL_len (r : Nat → Nat) (l : List AV) : (renL r l).length = l.length := by rw [renL_map]; simp

section
variable {E E0 : Env} {w : World} {r : Nat → Nat}

theorem Rep.of_ren (hI : ∀ b, E.I b → E0.I b) (hf : ∀ id, E0.f id = E.f (r id)) {y : AV} {v : Value} (h : Rep E w y v) : ∀ x : AV, y = x.ren r → Rep E0 w x v := by
  induction h with
  | val v => intro x e; cases x <;> simp only [AV.ren, reduceCtorEq] at e; injection e with e; subst e; exact .val _
  | any v => intro x e; cases x <;> simp only [AV.ren, reduceCtorEq] at e; exact .any _
  | ptr h => intro x e; cases x <;> simp only [AV.ren, reduceCtorEq] at e; injection e with e1 e2 e3; subst e1 e2 e3; exact .ptr (by rw [hf]; exact h)
  | iptr vs hI' hn hc _ ih =>
    intro x e
    cases x <;> simp only [AV.ren, reduceCtorEq] at e
    injection e with e
    subst e
    refine .iptr vs (hI _ hI') (by rw [hn, renL_len]) hc fun k a v h1 h2 => ih k (a.ren r) v (by rw [renL_get, h1]; rfl) h2 a rfl
  | sl h hc hl hn hA => intro x e; cases x <;> simp only [AV.ren, reduceCtorEq] at e; injection e with e1 e2 e3 e4; subst e1 e2 e3 e4; exact .sl (by rw [hf]; exact h) hc hl hn hA
  | slnil h hl =>
    intro x e
    cases x <;> simp only [AV.ren, reduceCtorEq] at e
    injection e with e1 e2 e3 e4
    subst e1 e2 e3 e4
    exact .slnil (by rw [hf]; exact h) hl
  | csl h hn hm => intro x e; cases x <;> simp only [AV.ren, reduceCtorEq] at e; injection e with e1 e2 e3 e4 e5; subst e1 e2 e3 e4 e5; exact .csl (by rw [hf]; exact h) hn hm
  | bytes hn hc hm h =>
    intro x e
    cases x <;> simp only [AV.ren, reduceCtorEq] at e
    injection e with e
    subst e
    refine .bytes hn hc hm fun h0 => ?_
    obtain ⟨g, o, e, h1, h2⟩ := h h0
    exact ⟨g, o, e, hI _ h1, h2⟩
  | view cells hc hm hA hl hx _ ih =>
    intro x e
    cases x <;> simp only [AV.ren, reduceCtorEq] at e
    injection e with e1 e2 e3
    subst e1 e2 e3
    refine .view cells hc hm (fun h0 => ⟨(hA h0).1, hI _ (hA h0).2⟩) (fun i hi => by have := hl i hi; rwa [renL_len] at this) hx fun i j a hi ha => ih i j (a.ren r) hi (by rw [renL_get, ha]; rfl) a rfl
  | agg hn _ ih =>
    intro x e
    cases x <;> simp only [AV.ren, reduceCtorEq] at e
    injection e with e
    subst e
    exact .agg (by rw [hn, renL_len]) fun k a v h1 h2 => ih k (a.ren r) v (by rw [renL_get, h1]; rfl) h2 a rfl
  | tup hn _ ih =>
    intro x e
    cases x <;> simp only [AV.ren, reduceCtorEq] at e
    injection e with e
    subst e
    exact .tup (by rw [hn, renL_len]) fun k a v h1 h2 => ih k (a.ren r) v (by rw [renL_get, h1]; rfl) h2 a rfl
  | fn hn _ ih =>
    intro x e
    cases x <;> simp only [AV.ren, reduceCtorEq] at e
    injection e with e1 e2
    subst e1 e2
    exact .fn (by rw [hn, renL_len]) fun k a v h1 h2 => ih k (a.ren r) v (by rw [renL_get, h1]; rfl) h2 a rfl
  | opt _ h' ih =>
    intro x e
    cases x <;> simp only [AV.ren, reduceCtorEq] at e
    injection e with e1 e2
    subst e1 e2
    exact .opt (fun hb => ih hb _ rfl) h'

theorem Rep.to_ren (hI : ∀ b, E0.I b → E.I b) (hf : ∀ id p, E0.f id = some p → E.f (r id) = some p) {x : AV} {v : Value} (h : Rep E0 w x v) : Rep E w (x.ren r) v := by
  have get : ∀ (l : List AV) (k : Nat) (a : AV), (renL r l)[k]? = some a → ∃ b, l[k]? = some b ∧ a = b.ren r := fun l k a h => by
    rw [renL_get] at h
    obtain ⟨b, h1, h2⟩ := Option.map_eq_some_iff.1 h
    exact ⟨b, h1, h2.symm⟩
  induction h with
  | val v => simp only [AV.ren]; exact .val _
  | any v => simp only [AV.ren]; exact .any _
  | ptr h => simp only [AV.ren]; exact .ptr (hf _ _ h)
  | iptr vs hI' hn hc _ ih =>
    simp only [AV.ren]
    refine .iptr vs (hI _ hI') (by rw [hn, renL_len]) hc fun k a v h1 h2 => ?_
    obtain ⟨b, h3, rfl⟩ := get _ _ _ h1
    exact ih k b v h3 h2
  | sl h hc hl hn hA => simp only [AV.ren]; exact .sl (hf _ _ h) hc hl hn hA
  | slnil h hl => simp only [AV.ren]; exact .slnil (hf _ _ h) hl
  | csl h hn hm => simp only [AV.ren]; exact .csl (hf _ _ h) hn hm
  | bytes hn hc hm h =>
    simp only [AV.ren]
    refine .bytes hn hc hm fun h0 => ?_
    obtain ⟨g, o, e, h1, h2⟩ := h h0
    exact ⟨g, o, e, hI _ h1, h2⟩
  | view cells hc hm hA hl hx _ ih =>
    simp only [AV.ren]
    refine .view cells hc hm (fun h0 => ⟨(hA h0).1, hI _ (hA h0).2⟩) (fun i hi => by rw [renL_len]; exact hl i hi) hx fun i j a hi ha => ?_
    obtain ⟨b, h3, rfl⟩ := get _ _ _ ha
    exact ih i j b hi h3
  | agg hn _ ih =>
    simp only [AV.ren]
    refine .agg (by rw [hn, renL_len]) fun k a v h1 h2 => ?_
    obtain ⟨b, h3, rfl⟩ := get _ _ _ h1
    exact ih k b v h3 h2
  | tup hn _ ih =>
    simp only [AV.ren]
    refine .tup (by rw [hn, renL_len]) fun k a v h1 h2 => ?_
    obtain ⟨b, h3, rfl⟩ := get _ _ _ h1
    exact ih k b v h3 h2
  | fn hn _ ih =>
    simp only [AV.ren]
    refine .fn (by rw [hn, renL_len]) fun k a v h1 h2 => ?_
    obtain ⟨b, h3, rfl⟩ := get _ _ _ h1
    exact ih k b v h3 h2
  | opt _ h' ih => simp only [AV.ren]; exact .opt ih h'
end

def AObj.ren (r : Nat → Nat) (x : AObj) : AObj := { x with body := match x.body with | .rows l => .rows (l.map (renL r)) | .bytes xs => .bytes xs | .flat l => .flat (l.map (renL r)) }
def renH (r : Nat → Nat) : List (Nat × AObj) → List (Nat × AObj)
  | [] => []
  | (k, x) :: l => (r k, x.ren r) :: renH r l

/-- the numbers that stand for 0, 1 .., and new ones from nx on -/
def renN (ids : List Nat) (nx : Nat) (id : Nat) : Nat := ids.getD id (nx + (id - ids.length))
end Go.Proofs.Ytecmagdefllihaa
