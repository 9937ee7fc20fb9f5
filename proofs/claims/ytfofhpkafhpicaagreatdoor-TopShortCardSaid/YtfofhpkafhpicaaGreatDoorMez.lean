/- Several texts in one: Ez, Eza, Ex. -/
import Derived.Test.YtfofhpkafhpicaaGreatDoorMet

/- An engine for walks: contracts of calls under other numbers, beside other objects; hints by function; a function of slices and structs that comes to true. -/
namespace Go.Proofs.YtfofhpkafhpicaaGreatDoor
open Go.RowKit

theorem hp_renH {r : Nat → Nat} (hr : ∀ i j, r i = r j → i = j) : ∀ (L : List (Nat × AObj)) (k : Nat), hp (renH r L) (r k) = (hp L k).map (AObj.ren r)
  | [], k => rfl
  | (i, x) :: L, k => by
    simp only [renH, hp]
    by_cases e : k = i
    · subst e; simp
    · rw [if_neg e, if_neg fun h => e (hr _ _ h)]
      exact hp_renH hr L k

theorem hp_renH_inv {r : Nat → Nat} (hr : ∀ i j, r i = r j → i = j) : ∀ (L : List (Nat × AObj)) (k : Nat) (y : AObj), hp (renH r L) k = some y → ∃ i x, k = r i ∧ y = x.ren r ∧ hp L i = some x
  | [], k, y, h => by simp [renH, hp] at h
  | (i, x) :: L, k, y, h => by
    by_cases e : k = r i
    · subst e
      rw [hp_renH hr] at h
      obtain ⟨x', h1, h2⟩ := Option.map_eq_some_iff.1 h
      exact ⟨i, x', rfl, h2.symm, h1⟩
    · simp only [renH, hp] at h
      rw [if_neg e] at h
      obtain ⟨j, x', h1, h2, h3⟩ := hp_renH_inv hr L k y h
      refine ⟨j, x', h1, h2, ?_⟩
      simp only [hp]
      rw [if_neg fun e2 => e (by rw [h1, e2])]
      exact h3

theorem ORep.to_ren {E E0 : Env} {w : World} {r : Nat → Nat} (hI : ∀ b, E.I b ↔ E0.I b) (hf : ∀ id p, E0.f id = some p → E.f (r id) = some p) {o : AObj} {p : Place} (h : ORep E0 w o p) : ORep E w (o.ren r) p := by
  cases p with
  | nil =>
    obtain ⟨h1, h2⟩ := h
    exact ⟨by rw [ren_len]; exact h1, h2⟩
  | at_ b c sz =>
    obtain ⟨h1, h2, h3, h4, h5, cur, fr, h6, h7, h8, h9⟩ := h
    refine ⟨h1, fun h => h2 ((hI b).1 h), by rw [ren_len]; exact h3, h4, by rw [ren_len]; exact h5, cur, fr, h6, h7, h8, fun i hi j hj => ?_⟩
    rw [ren_len] at hi
    obtain ⟨a, v, e1, e2, e3⟩ := h9 i hi j hj
    refine ⟨a.ren r, v, by rw [ren_cell, e1]; rfl, e2, Rep.to_ren (fun b h => (hI b).2 h) hf e3⟩

/-- what a call does it does under other numbers too -/
theorem ACall.ren {P : Program} {g : FuncId} {xs : List AV} {L L' : List (Nat × AObj)} {n1 : Nat} {v : AV} {ids : List Nat} (h : ACall P g xs L ids.length v L' n1) {nx : Nat} (hnd : ids.Nodup) (hlt : ∀ i ∈ ids, i < nx) (hle : ids.length ≤ n1) :
    ACall P g (renL (renN ids nx) xs) (renH (renN ids nx) L) nx (v.ren (renN ids nx)) (renH (renN ids nx) L') (nx + (n1 - ids.length)) := by
  have inj : ∀ i j, renN ids nx i = renN ids nx j → i = j := renN_inj hnd hlt
  generalize hr : renN ids nx = r at *
  have rlow : ∀ k, k < ids.length → r k < nx := fun k hk => by
    rw [← hr]; unfold renN
    rw [List.getD_eq_getElem?_getD, List.getElem?_eq_getElem hk]
    exact hlt _ (List.getElem_mem _)
  have rhigh : ∀ k, ids.length ≤ k → r k = nx + (k - ids.length) := fun k hk => by
    rw [← hr]; unfold renN
    rw [List.getD_eq_getElem?_getD, List.getElem?_eq_none hk]; rfl
  intro E w vs hs hreps
  have s0 : Sat ⟨fun id => E.f (r id), E.I⟩ ids.length (hp L) w := hs.renumber r inj (fun id hid => by rw [rhigh id hid]; omega) fun id x hx => by rw [hp_renH inj, hx]; rfl
  have reps0 : Reps ⟨fun id => E.f (r id), E.I⟩ w xs vs := ⟨by rw [hreps.1, renL_len], fun k a u h1 h2 => Rep.of_ren (E := E) (E0 := ⟨fun id => E.f (r id), E.I⟩) (r := r) (fun _ h => h) (fun _ => rfl) (hreps.2 k (a.ren r) u (by rw [renL_get, h1]; rfl) h2) a rfl⟩
  refine Calls.mono (h _ w vs s0 reps0) fun e w' hh => ?_
  obtain ⟨E0', u, rfl, t1, t2, t3⟩ := hh
  have hf : ∀ id p, E0'.f id = some p → (fun id => if id < nx then E.f id else E0'.f (ids.length + (id - nx))) (r id) = some p := by
    intro id p hp'
    by_cases hid : id < ids.length
    · have h1 := rlow id hid
      rcases t3.nw _ _ hp' with h2 | h2
      · simp only [h1, if_true]; exact h2
      · omega
    · have h1 := rhigh id (by omega)
      simp only [h1]
      rw [if_neg (by omega), show ids.length + (nx + (id - ids.length) - nx) = id by omega]
      exact hp'
  have hb0 : ∀ b, Hb ⟨fun id => E.f (r id), E.I⟩ (hp L) b → Hb E (hp (renH r L)) b := fun b ⟨id, o, c, sz, h1, h2⟩ => ⟨r id, o.ren r, c, sz, by rw [hp_renH inj, h1]; rfl, h2⟩
  refine ⟨⟨fun id => if id < nx then E.f id else E0'.f (ids.length + (id - nx)), E0'.I⟩, u, rfl, ⟨fun id o ho => ?_, fun id id' o o' b c z c' z' h1 h2 e1 e2 => ?_, fun id hid => ?_, t1.imm⟩, Rep.to_ren (E0 := E0') (E := ⟨fun id => if id < nx then E.f id else E0'.f (ids.length + (id - nx)), E0'.I⟩) (fun _ h => h) hf t2, ⟨fun id p hp' => ?_, fun id p hp' => ?_, fun b hb => t3.I b hb, fun b hb => ?_, fun b h1 h2 => t3.fr b h1 fun h => h2 (hb0 b h), ?_, t3.size, t3.os, t3.tape, t3.output⟩⟩
  · obtain ⟨k, x, rfl, rfl, hx⟩ := hp_renH_inv inj _ _ _ ho
    obtain ⟨p, hp', ro⟩ := t1.rows _ _ hx
    exact ⟨p, hf _ _ hp', ORep.to_ren (E0 := E0') (E := ⟨fun id => if id < nx then E.f id else E0'.f (ids.length + (id - nx)), E0'.I⟩) (r := r) (fun _ => Iff.rfl) hf ro⟩
  · obtain ⟨k, x, rfl, rfl, hx⟩ := hp_renH_inv inj _ _ _ h1
    obtain ⟨k', x', rfl, rfl, hx'⟩ := hp_renH_inv inj _ _ _ h2
    obtain ⟨p, hp', _⟩ := t1.rows _ _ hx
    obtain ⟨p', hp'', _⟩ := t1.rows _ _ hx'
    have g1 := hf _ _ hp'
    have g2 := hf _ _ hp''
    have e1' := g1.symm.trans e1
    have e2' := g2.symm.trans e2
    injection e1' with e1'
    injection e2' with e2'
    subst e1' e2'
    rw [t1.inj _ _ _ _ _ _ _ _ _ hx hx' hp' hp'']
  · show (if id < nx then E.f id else E0'.f (ids.length + (id - nx))) = none
    rw [if_neg (by omega)]
    exact t1.fresh _ (by omega)
  · show (if id < nx then E.f id else E0'.f (ids.length + (id - nx))) = some p
    by_cases hid : id < nx
    · rw [if_pos hid]; exact hp'
    · rw [hs.fresh id (by omega)] at hp'; cases hp'
  · by_cases hid : id < nx
    · left
      have : (if id < nx then E.f id else E0'.f (ids.length + (id - nx))) = some p := hp'
      rw [if_pos hid] at this
      exact this
    · exact .inr (by omega)
  · rcases t3.I' b hb with h | h | h
    · exact .inl h
    · exact .inr (.inl h)
    · exact .inr (.inr (hb0 b h))
  · rintro b ⟨id, o, c, sz, h1, h2⟩
    obtain ⟨k, x, rfl, rfl, hx⟩ := hp_renH_inv inj _ _ _ h1
    obtain ⟨p, hp', _⟩ := t1.rows _ _ hx
    have g1 := (hf _ _ hp').symm.trans h2
    injection g1 with g1
    subst g1
    rcases t3.hb b ⟨k, x, c, sz, hx, hp'⟩ with h | h
    · exact .inl (hb0 b h)
    · exact .inr h

/-- what a call does it does beside other objects too -/
theorem ACall.frame {P : Program} {g : FuncId} {xs : List AV} {L L' K K' : List (Nat × AObj)} {nx n1 : Nat} {v : AV} (h : ACall P g xs L nx v L' n1) (hsub : ∀ id o, hp L id = some o → hp K id = some o)
    (hK : ∀ id o, hp K' id = some o → hp L' id = some o ∨ (hp K id = some o ∧ hp L id = none)) : ACall P g xs K nx v K' n1 := by
  intro E w vs hs hreps
  refine Calls.mono (h E w vs (hs.sub hsub) hreps) fun e w' hh => ?_
  obtain ⟨E', u, rfl, t1, t2, t3⟩ := hh
  have hfr := Sat.frame hs hsub t3 t1 hK
  exact ⟨E', u, rfl, hfr.1, t2, hfr.2⟩

theorem ACall.up {P : Program} {g : FuncId} {xs : List AV} {L L' : List (Nat × AObj)} {nx n1 n2 : Nat} {v : AV} (h : ACall P g xs L nx v L' n1) (hn : n1 ≤ n2) : ACall P g xs L nx v L' n2 := by
  intro E w vs hs hreps
  refine Calls.mono (h E w vs hs hreps) fun e w' hh => ?_
  obtain ⟨E', u, rfl, t1, t2, t3⟩ := hh
  exact ⟨E', u, rfl, t1.up hn, t2, t3⟩

theorem hp_append : ∀ (A B : List (Nat × AObj)) (k : Nat) (x : AObj), hp (A ++ B) k = some x → hp A k = some x ∨ (hp A k = none ∧ hp B k = some x)
  | [], B, k, x, h => .inr ⟨rfl, h⟩
  | (i, y) :: A, B, k, x, h => by
    simp only [List.cons_append, hp] at h ⊢
    split
    · rename_i e
      rw [if_pos e] at h
      exact .inl h
    · rename_i e
      rw [if_neg e] at h
      exact hp_append A B k x h

theorem hp_filter (f : Nat → Bool) : ∀ (K : List (Nat × AObj)) (k : Nat) (x : AObj), hp (K.filter fun p => f p.1) k = some x → f k = true ∧ hp K k = some x
  | [], k, x, h => by simp [hp] at h
  | (i, y) :: K, k, x, h => by
    by_cases hf : f i = true
    · rw [List.filter_cons_of_pos (by simpa using hf)] at h
      simp only [hp] at h ⊢
      split at h
      · rename_i e
        subst e
        rw [if_pos rfl]
        exact ⟨hf, h⟩
      · rename_i e
        rw [if_neg e]
        exact hp_filter f K k x h
    · rw [List.filter_cons_of_neg (by simpa using hf)] at h
      obtain ⟨h1, h2⟩ := hp_filter f K k x h
      refine ⟨h1, ?_⟩
      simp only [hp]
      rw [if_neg fun e => hf (by rw [← e]; exact h1)]
      exact h2

/-- a contract under the numbers 0, 1 .. used at other numbers, beside other objects -/
theorem ACall.used {P : Program} {g : FuncId} {xs : List AV} {L L' K : List (Nat × AObj)} {n1 : Nat} {v : AV} {ids : List Nat} (h : ACall P g xs L ids.length v L' n1) {nx : Nat} (hnd : ids.Nodup) (hlt : ∀ i ∈ ids, i < nx) (hle : ids.length ≤ n1)
    (hL : ∀ k x, hp L k = some x → k < ids.length ∧ hp K (renN ids nx k) = some (x.ren (renN ids nx))) :
    ACall P g (renL (renN ids nx) xs) K nx (v.ren (renN ids nx)) (renH (renN ids nx) L' ++ K.filter fun p => !ids.contains p.1) (nx + (n1 - ids.length)) := by
  have inj : ∀ i j, renN ids nx i = renN ids nx j → i = j := renN_inj hnd hlt
  refine (h.ren hnd hlt hle).frame (fun id o ho => ?_) fun id o ho => ?_
  · obtain ⟨k, x, rfl, rfl, hx⟩ := hp_renH_inv inj _ _ _ ho
    exact (hL _ _ hx).2
  · rcases hp_append _ _ _ _ ho with h1 | ⟨_, h1⟩
    · exact .inl h1
    · right
      obtain ⟨h2, h3⟩ := hp_filter (fun k => !ids.contains k) _ _ _ h1
      refine ⟨h3, ?_⟩
      cases hh : hp (renH (renN ids nx) L) id with
      | none => rfl
      | some y =>
        obtain ⟨k, x, rfl, rfl, hx⟩ := hp_renH_inv inj _ _ _ hh
        have hk := (hL _ _ hx).1
        simp only [renN, List.getD_eq_getElem?_getD, List.getElem?_eq_getElem hk, Option.getD_some, Bool.not_eq_true', List.contains_eq_mem, decide_eq_false_iff_not] at h2
        exact absurd (List.getElem_mem hk) h2

/-! ### hints by function -/
def orInl (a b : Inl) : Inl := fun g xs L nx => match a g xs L nx with | some r => some r | none => b g xs L nx
theorem orInl_ok {P : Program} {a b : Inl} (ha : InlOk P a) (hb : InlOk P b) : InlOk P (orInl a b) := by
  intro g xs L nx v L' nx' q h hq
  unfold orInl at h
  split at h
  · rename_i r h1
    injection h with h
    subst h
    exact ha _ _ _ _ _ _ _ _ h1 hq
  · exact hb _ _ _ _ _ _ _ _ h hq

/-- hints of one function: operations, guards, branches, conditions left to be shown -/
structure HL where
  op : List (Nat × Nat × Hn) := []
  gd : List (Nat × Nat × Bool) := []
  br : List (Nat × Bool) := []
  ob : List (Nat × Nat) := []
  sp : List (Nat × Nat) := []
  lp : List (Nat × Ex × St) := []

def mem2 : List (Nat × Nat) → Nat → Nat → Bool
  | [], _, _ => false
  | (a, b) :: l, r, i => (a == r && b == i) || mem2 l r i

def HL.hs (h : HL) (inl : Inl) : Hints := { op := find2 h.op, gd := find2 h.gd, br := find1 h.br, ob := mem2 h.ob, sp := mem2 h.sp, lp := find1 h.lp, fuel := 10000, cl := true, inl := inl }

/-- the functions that are called are reckoned too, so deep, each with its hints; those that 'known' knows are not -/
def inlT (known : Inl) (tab : List (Nat × HL)) (P : Program) : Nat → Inl
  | 0 => known
  | n + 1 => fun g xs L nx =>
    match known g xs L nx with
    | some r => some r
    | none =>
      match runFn (((find1 tab g).getD {}).hs (inlT known tab P n)) P g xs L nx with
      | some (v, s, q) => if nx ≤ s.nx then some (v, keepL v L (heapF s.hp), s.nx, q) else none
      | none => none

theorem inlT_ok {P : Program} {known : Inl} (hk : InlOk P known) (tab : List (Nat × HL)) : ∀ n, InlOk P (inlT known tab P n)
  | 0 => hk
  | n + 1 => fun g xs L nx v L' nx' q h hq => by
    simp only [inlT] at h
    split at h
    · rename_i r h0
      injection h with h
      subst h
      exact hk _ _ _ _ _ _ _ _ h0 hq
    · split at h
      · rename_i v1 s q1 h1
        split at h
        · rename_i hle
          simp only [Option.some.injEq, Prod.mk.injEq] at h
          obtain ⟨rfl, rfl, rfl, rfl⟩ := h
          exact ⟨runFn_ok (inlT_ok hk tab n) h1 hq (pickO_sub _), hle⟩
        · cases h
      · cases h

/-- one function, reckoned with hints by function: its value, its objects, what is left to show -/
def outT (known : Inl) (tab : List (Nat × HL)) (P : Program) (g : FuncId) (xs : List AV) (L : List (Nat × AObj)) (nx : Nat) : Option (AV × List (Nat × AObj) × Nat × List Prop) :=
  match runFn (((find1 tab g).getD {}).hs (inlT known tab P 40)) P g xs L nx with
  | some (v, s, q) => if nx ≤ s.nx then some (v, keepL v L (heapF s.hp), s.nx, q) else none
  | none => none

theorem outT_ok {P : Program} {known : Inl} (hk : InlOk P known) {tab : List (Nat × HL)} {g : FuncId} {xs : List AV} {L L' : List (Nat × AObj)} {nx nx' : Nat} {v : AV} {q : List Prop} (h : outT known tab P g xs L nx = some (v, L', nx', q)) (hq : ∀ p ∈ q, p) :
    ACall P g xs L nx v L' nx' ∧ nx ≤ nx' := by
  unfold outT at h
  split at h
  · rename_i v1 s q1 h1
    split at h
    · rename_i hle
      simp only [Option.some.injEq, Prod.mk.injEq] at h
      obtain ⟨rfl, rfl, rfl, rfl⟩ := h
      exact ⟨runFn_ok (inlT_ok hk tab 40) h1 hq (pickO_sub _), hle⟩
    · cases h
  · cases h

/-- a contract of a call out of nothing, used at a world -/
theorem ACall.true_ {P : Program} {g : FuncId} {xs : List AV} {L' : List (Nat × AObj)} {nx' : Nat} {vs : Array Value} {w : World} (h : ACall P g xs [] 0 (.val (.bool true)) L' nx') (hreps : Reps ⟨fun _ => none, fun b => b < w.heap.size⟩ w xs vs) :
    Calls P g vs w fun e w' => e = .returned (.bool true) ∧ Below w.heap.size w w' := by
  refine Calls.mono (h ⟨fun _ => none, fun b => b < w.heap.size⟩ w vs ⟨fun _ _ h => by simp [hp] at h, fun _ _ _ _ _ _ _ _ _ h => by simp [hp] at h, fun _ _ => rfl, fun _ h => h⟩ hreps) fun e w' hh => ?_
  obtain ⟨E', u, rfl, _, t2, t3⟩ := hh
  rw [t2.val_inv]
  exact ⟨rfl, t3.os, t3.tape, t3.output, t3.size, fun b hb => t3.fr b hb fun ⟨id, x, c, z, h1, _⟩ => by simp [hp] at h1⟩

theorem allNil : ∀ p ∈ ([] : List Prop), p := fun _ h => by cases h
theorem allCons {p : Prop} {q : List Prop} (h : p) (hq : ∀ x ∈ q, x) : ∀ x ∈ p :: q, x := by
  intro x hx
  rcases List.mem_cons.1 hx with rfl | hx
  · exact h
  · exact hq x hx
end Go.Proofs.YtfofhpkafhpicaaGreatDoor

/- A function that is called more than once may have other hints at each of its calls: the table is asked for the call's first free number first. -/
namespace Go.Proofs.YtfofhpkafhpicaaGreatDoor
open Go.RowKit

def hlOf (tab : List (Nat × HL)) (g nx : Nat) : HL :=
  match find1 tab (g + 1000000 * (nx + 1)) with
  | some h => h
  | none => (find1 tab g).getD {}

/-- the functions that are called are reckoned too, so deep, each with its hints; those that 'known' knows are not -/
def inlS (known : Inl) (tab : List (Nat × HL)) (P : Program) : Nat → Inl
  | 0 => known
  | n + 1 => fun g xs L nx =>
    match known g xs L nx with
    | some r => some r
    | none =>
      match runFn ((hlOf tab g nx).hs (inlS known tab P n)) P g xs L nx with
      | some (v, s, q) => if nx ≤ s.nx then some (v, keepL v L (heapF s.hp), s.nx, q) else none
      | none => none

theorem inlS_ok {P : Program} {known : Inl} (hk : InlOk P known) (tab : List (Nat × HL)) : ∀ n, InlOk P (inlS known tab P n)
  | 0 => hk
  | n + 1 => fun g xs L nx v L' nx' q h hq => by
    simp only [inlS] at h
    split at h
    · rename_i r h0
      injection h with h
      subst h
      exact hk _ _ _ _ _ _ _ _ h0 hq
    · split at h
      · rename_i v1 s q1 h1
        split at h
        · rename_i hle
          simp only [Option.some.injEq, Prod.mk.injEq] at h
          obtain ⟨rfl, rfl, rfl, rfl⟩ := h
          exact ⟨runFn_ok (inlS_ok hk tab n) h1 hq (pickO_sub _), hle⟩
        · cases h
      · cases h

/-- one function, reckoned with hints by function: its value, its objects, what is left to show -/
def outS (known : Inl) (tab : List (Nat × HL)) (P : Program) (g : FuncId) (xs : List AV) (L : List (Nat × AObj)) (nx : Nat) : Option (AV × List (Nat × AObj) × Nat × List Prop) :=
  match runFn ((hlOf tab g nx).hs (inlS known tab P 40)) P g xs L nx with
  | some (v, s, q) => if nx ≤ s.nx then some (v, keepL v L (heapF s.hp), s.nx, q) else none
  | none => none

theorem outS_ok {P : Program} {known : Inl} (hk : InlOk P known) {tab : List (Nat × HL)} {g : FuncId} {xs : List AV} {L L' : List (Nat × AObj)} {nx nx' : Nat} {v : AV} {q : List Prop} (h : outS known tab P g xs L nx = some (v, L', nx', q)) (hq : ∀ p ∈ q, p) :
    ACall P g xs L nx v L' nx' ∧ nx ≤ nx' := by
  unfold outS at h
  split at h
  · rename_i v1 s q1 h1
    split at h
    · rename_i hle
      simp only [Option.some.injEq, Prod.mk.injEq] at h
      obtain ⟨rfl, rfl, rfl, rfl⟩ := h
      exact ⟨runFn_ok (inlS_ok hk tab 40) h1 hq (pickO_sub _), hle⟩
    · cases h
  · cases h

end Go.Proofs.YtfofhpkafhpicaaGreatDoor

/- An engine for walks: states given by lists; does a state say so much under other numbers? -/
namespace Go.Proofs.YtfofhpkafhpicaaGreatDoor
open Go.RowKit

def putsT : List (Nat × AV) → Tr AV
  | [] => .leaf
  | (k, v) :: l => (putsT l).put k (some v)

theorem putsT_get : ∀ (l : List (Nat × AV)) (t : Nat), (putsT l).get t = none ∨ ∃ v, (t, v) ∈ l ∧ (putsT l).get t = some v
  | [], t => .inl (Tr.get_leaf t)
  | (k, v) :: l, t => by
    unfold putsT
    rw [Tr.get_put']
    by_cases e : t = k
    · subst e
      rw [if_pos rfl]
      exact .inr ⟨v, List.mem_cons_self, rfl⟩
    · rw [if_neg e]
      exact (putsT_get l t).imp id fun ⟨x, h1, h2⟩ => ⟨x, List.mem_cons_of_mem _ h1, h2⟩

theorem hp_mem : ∀ {l : List (Nat × AObj)} {k : Nat} {x : AObj}, hp l k = some x → (k, x) ∈ l
  | [], _, _, h => by simp [hp] at h
  | (a, y) :: l, k, x, h => by
    simp only [hp] at h
    split at h
    · rename_i e
      injection h with h
      subst e h
      exact List.mem_cons_self
    · exact List.mem_cons_of_mem _ (hp_mem h)

/-- what a state shall say: closed temporaries, open ones, objects under the numbers 0, 1 .. -/
structure Goal where
  len : Nat
  tms : List (Nat × AV)
  opn : List (Nat × AV)
  objs : List (Nat × AObj)
  n : Nat

def Goal.st (G : Goal) : St := ⟨G.len, putsT (G.tms ++ G.opn), treeH G.objs, G.n⟩

def nodupB : List Nat → Bool
  | [] => true
  | x :: l => !l.contains x && nodupB l
theorem nodupB_ok : ∀ {l : List Nat}, nodupB l = true → l.Nodup
  | [], _ => List.nodup_nil
  | x :: l, h => by
    simp only [nodupB, Bool.and_eq_true, Bool.not_eq_true', List.contains_eq_mem, decide_eq_false_iff_not] at h
    exact List.nodup_cons.2 ⟨h.1, nodupB_ok h.2⟩

def goalOk (G : Goal) (ids : List Nat) (s : St) : Bool :=
  nodupB ids && ids.all (fun x => decide (x < s.nx)) && (G.len == s.len) && (G.n == ids.length) &&
  G.tms.all (fun p => (p.2.ren (renN ids s.nx)).same (tmF s p.1)) &&
  G.objs.all fun p => match heapF s.hp (renN ids s.nx p.1) with
    | some y => (p.2.ren (renN ids s.nx)).same y
    | none => false

def goalQ (G : Goal) (s : St) : List Prop := G.opn.map fun p => ∀ r, tmF s p.1 = p.2.ren r

theorem goal_ok {G : Goal} {ids : List Nat} {s : St} (h : goalOk G ids s = true) (hq : ∀ p ∈ goalQ G s, p) : Renum G.st s := by
  simp only [goalOk, Bool.and_eq_true, beq_iff_eq, List.all_eq_true, decide_eq_true_eq] at h
  obtain ⟨⟨⟨⟨⟨h1, h2⟩, h3⟩, h4⟩, h5⟩, h6⟩ := h
  refine ⟨h3, renN ids s.nx, renN_inj (nodupB_ok h1) h2, fun id hid => renN_fresh id (by rw [← h4]; exact hid), fun id x hx => ?_, fun t => ?_⟩
  · have hm := hp_mem ((congrFun (treeH_ok G.objs) id).symm.trans hx)
    have := h6 _ hm
    split at this
    · rename_i y hy
      rw [hy, AObj.same_ok this]
    · cases this
  · rcases putsT_get (G.tms ++ G.opn) t with h | ⟨v, hm, h⟩
    · left; simp [tmF, Goal.st, h]
    · right
      have e : tmF G.st t = v := by simp [tmF, Goal.st, h]
      rw [e]
      rcases List.mem_append.1 hm with hm | hm
      · exact (AV.same_ok (h5 _ hm)).symm
      · exact hq _ (List.mem_map.2 ⟨_, hm, rfl⟩) _

/-- one round: does it come to that? what is left to show -/
def roundQ (hs : Hints) (P : Program) (b : Code) (st : St) (G : Goal) (ids : List Nat) : Option (List Prop) :=
  match run hs P b st with
  | some (.normal, s, q) => if goalOk G ids s then some (q ++ goalQ G s) else none
  | _ => none

theorem roundQ_ok {hs : Hints} {P : Program} (hinl : InlOk P hs.inl) {b : Code} {st : St} {G : Goal} {ids : List Nat} {q : List Prop} (h : roundQ hs P b st G ids = some q) (hq : ∀ p ∈ q, p) : EvW P b st .normal G.st := by
  unfold roundQ at h
  split at h
  · rename_i s q1 h1
    split at h
    · rename_i hc
      injection h with h
      subst h
      exact (run_ok hinl _ _ _ _ _ h1 fun p hp => hq p (List.mem_append_left _ hp)).toW.renum (goal_ok hc fun p hp => hq p (List.mem_append_right _ hp))
    · cases h
  · cases h

def exitQ (hs : Hints) (P : Program) (b : Code) (st : St) (e : Nat) (G : Goal) (ids : List Nat) : Option (List Prop) :=
  match run hs P b st with
  | some (.exit k, s, q) => if k = e ∧ goalOk G ids s = true then some (q ++ goalQ G s) else none
  | _ => none

theorem exitQ_ok {hs : Hints} {P : Program} (hinl : InlOk P hs.inl) {b : Code} {st : St} {e : Nat} {G : Goal} {ids : List Nat} {q : List Prop} (h : exitQ hs P b st e G ids = some q) (hq : ∀ p ∈ q, p) : EvW P b st (.exit e) G.st := by
  unfold exitQ at h
  split at h
  · rename_i k s q1 h1
    split at h
    · rename_i hc
      injection h with h
      subst h
      rw [hc.1] at h1
      exact (run_ok hinl _ _ _ _ _ h1 fun p hp => hq p (List.mem_append_left _ hp)).toW.renum (goal_ok hc.2 fun p hp => hq p (List.mem_append_right _ hp))
    · cases h
  · cases h
end Go.Proofs.YtfofhpkafhpicaaGreatDoor
