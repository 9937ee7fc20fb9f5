/- Several texts in one: Et, Eu, Eq, Ev. -/
import Derived.Test.YtfofhpkafhpicaaGreatDoorMes

/- An engine for walks: a function of plain values that comes to true. -/
namespace Go.Proofs.YtfofhpkafhpicaaGreatDoor
open Go.RowKit

/-- what a function of plain values comes to, and what is left to show -/
def outQ (hs : Hints) (P : Program) (g : FuncId) (vals : List Value) : Option (AV × List Prop) :=
  match runFn hs P g (vals.map .val) [] 0 with
  | some (v, _, q) => some (v, q)
  | none => none

theorem run_true {P : Program} {hs : Hints} (hinl : InlOk P hs.inl) {g : FuncId} {vals : List Value} {q : List Prop} (h : outQ hs P g vals = some (.val (.bool true), q)) (hq : ∀ p ∈ q, p) (w : World) :
    Calls P g vals.toArray w fun e w' => e = .returned (.bool true) ∧ Below w.heap.size w w' := by
  unfold outQ at h
  split at h
  · rename_i v s q' hr
    simp only [Option.some.injEq, Prod.mk.injEq] at h
    obtain ⟨rfl, rfl⟩ := h
    have hc : ACall P g (vals.map .val) [] 0 (.val (.bool true)) [] s.nx := runFn_ok hinl hr hq (fun id x h => by simp [hp] at h)
    refine Calls.mono (hc ⟨fun _ => none, fun _ => False⟩ w vals.toArray ⟨fun _ _ h => by simp [hp] at h, fun _ _ _ _ _ _ _ _ _ h => by simp [hp] at h, fun _ _ => rfl, fun _ h => h.elim⟩ ⟨by simp, fun k a v h h2 => by
      simp only [List.getElem?_map, Option.map_eq_some_iff] at h
      obtain ⟨u, hu, rfl⟩ := h
      simp only [List.getElem?_toArray] at h2
      rw [hu] at h2
      injection h2 with h2
      subst h2
      exact .val _⟩) fun e w' hh => ?_
    obtain ⟨E', u, rfl, _, t2, t3⟩ := hh
    rw [t2.val_inv]
    exact ⟨rfl, t3.os, t3.tape, t3.output, t3.size, fun b hb => t3.fr b hb fun ⟨id, x, c, z, h1, _⟩ => by simp [hp] at h1⟩
  · cases h

def find2 {α : Type} : List (Nat × Nat × α) → Nat → Nat → Option α
  | [], _, _ => none
  | (a, b, x) :: l, r, i => if a = r ∧ b = i then some x else find2 l r i
def find1 {α : Type} : List (Nat × α) → Nat → Option α
  | [], _ => none
  | (a, x) :: l, r => if a = r then some x else find1 l r

/-- hints for the outermost function alone; those that it calls are reckoned without -/
def symH (P : Program) (op : List (Nat × Nat × Hn)) (gd : List (Nat × Nat × Bool)) (br : List (Nat × Bool)) (fam : List (Nat × LoopFam)) : Hints :=
  { op := find2 op, gd := find2 gd, br := find1 br, fam := find1 fam, fuel := 10000, cl := true, inl := inlK noneKnown { cl := true, fuel := 10000 } P 30 }

theorem symH_ok (P : Program) (op : List (Nat × Nat × Hn)) (gd : List (Nat × Nat × Bool)) (br : List (Nat × Bool)) (fam : List (Nat × LoopFam)) : InlOk P (symH P op gd br fam).inl := inlK_ok noneKnown_ok _ _

/-- rounds up to a bound that is not known -/
def upTo (a : Int) : Nat → Nat → List (List Prop × List Prop)
  | 0, i => [([False], [decide ((i : Int) < a) = false])]
  | n + 1, i => ([decide ((i : Int) < a) = true], [decide ((i : Int) < a) = false]) :: upTo a n (i + 1)

theorem famP_upTo (a : Int) : ∀ (n i : Nat), (i : Int) ≤ a → a ≤ i + n → famP (upTo a n i)
  | 0, i, h1, h2 => by
    refine .inl fun p hp => ?_
    rw [List.mem_singleton.1 hp]
    simp; omega
  | n + 1, i, h1, h2 => by
    by_cases e : (i : Int) < a
    · refine .inr ⟨fun p hp => ?_, famP_upTo a n (i + 1) (by omega) (by push_cast; omega)⟩
      rw [List.mem_singleton.1 hp]
      simpa using e
    · refine .inl fun p hp => ?_
      rw [List.mem_singleton.1 hp]
      simpa using e
end Go.Proofs.YtfofhpkafhpicaaGreatDoor

/- An engine for walks: hints by function. -/
namespace Go.Proofs.YtfofhpkafhpicaaGreatDoor
open Go.RowKit

theorem find1_mem {α : Type} : ∀ {l : List (Nat × α)} {r : Nat} {x : α}, find1 l r = some x → (r, x) ∈ l
  | [], _, _, h => by cases h
  | (a, y) :: l, r, x, h => by
    simp only [find1] at h
    split at h
    · rename_i e
      injection h with h
      subst e h
      exact List.mem_cons_self
    · exact List.mem_cons_of_mem _ (find1_mem h)

/-- these functions are reckoned with hints of their own -/
def inlAt (tab : List (Nat × Hints)) (P : Program) : Inl := fun g xs L nx =>
  match find1 tab g with
  | some hs =>
    match runFn hs P g xs L nx with
    | some (v, s, q) => if nx ≤ s.nx then some (v, keepL v L (heapF s.hp), s.nx, q) else none
    | none => none
  | none => none

theorem inlAt_ok {tab : List (Nat × Hints)} {P : Program} (h : ∀ e ∈ tab, InlOk P e.2.inl) : InlOk P (inlAt tab P) := by
  intro g xs L nx v L' nx' q h0 hq
  unfold inlAt at h0
  split at h0
  · rename_i hs hf
    split at h0
    · rename_i v1 s q1 h1
      split at h0
      · rename_i hle
        simp only [Option.some.injEq, Prod.mk.injEq] at h0
        obtain ⟨rfl, rfl, rfl, rfl⟩ := h0
        exact ⟨runFn_ok (h _ (find1_mem hf)) h1 hq (pickO_sub _), hle⟩
      · cases h0
    · cases h0
  · cases h0

def symH2 (P : Program) (op : List (Nat × Nat × Hn)) (gd : List (Nat × Nat × Bool)) (br : List (Nat × Bool)) (fam : List (Nat × LoopFam)) (tab : List (Nat × Hints)) : Hints :=
  { op := find2 op, gd := find2 gd, br := find1 br, fam := find1 fam, fuel := 10000, cl := true, inl := inlK (inlAt tab P) { cl := true, fuel := 10000 } P 30 }

theorem symH2_ok (P : Program) (op : List (Nat × Nat × Hn)) (gd : List (Nat × Nat × Bool)) (br : List (Nat × Bool)) (fam : List (Nat × LoopFam)) (tab : List (Nat × Hints)) (h : ∀ e ∈ tab, InlOk P e.2.inl) : InlOk P (symH2 P op gd br fam tab).inl :=
  inlK_ok (inlAt_ok h) _ _
end Go.Proofs.YtfofhpkafhpicaaGreatDoor

/- An engine for walks: what holds of a call's objects under some numbers holds under others. -/
namespace Go.Proofs.YtfofhpkafhpicaaGreatDoor
open Go.RowKit

mutual
def AV.ren (r : Nat → Nat) : AV → AV
  | .val v => .val v
  | .any => .any
  | .ptr id i j => .ptr (r id) i j
  | .iptr l => .iptr (renL r l)
  | .sl id off n lim => .sl (r id) off n lim
  | .csl id i j n c => .csl (r id) i j n c
  | .bytes xs => .bytes xs
  | .view sz n g => .view sz n fun i => renL r (g i)
  | .agg l => .agg (renL r l)
  | .tup l => .tup (renL r l)
  | .fn f l => .fn f (renL r l)
  | .opt b v => .opt b (v.ren r)
  | .emap => .emap
def renL (r : Nat → Nat) : List AV → List AV
  | [] => []
  | x :: l => x.ren r :: renL r l
end

theorem renL_map (r : Nat → Nat) : ∀ l : List AV, renL r l = l.map (AV.ren r)
  | [] => by simp [renL]
  | x :: l => by simp [renL, renL_map r l]

theorem renL_get (r : Nat → Nat) (l : List AV) (k : Nat) : (renL r l)[k]? = (l[k]?).map (AV.ren r) := by rw [renL_map]; simp
theorem renL_len (r : Nat → Nat) (l : List AV) : (renL r l).length = l.length := by rw [renL_map]; simp

section
variable {E E0 : Env} {w : World} {r : Nat → Nat}

theorem Rep.of_ren (hI : ∀ b, E.I b → E0.I b) (hf : ∀ id, E0.f id = E.f (r id)) {y : AV} {v : Value} (h : Rep E w y v) : ∀ x : AV, y = x.ren r → Rep E0 w x v := by
  induction h with
  | val v => intro x e; cases x <;> simp only [AV.ren, reduceCtorEq] at e; injection e with e; subst e; exact .val _
  | any v => intro x e; cases x <;> simp only [AV.ren, reduceCtorEq] at e; exact .any _
  | ptr h => intro x e; cases x <;> simp only [AV.ren, reduceCtorEq] at e; injection e with e1 e2 e3; subst e1 e2 e3; exact .ptr (by rw [hf]; exact h)
  | iptr vs hI' hn hc _ ih =>
    intro x e
    cases x <;> simp only [AV.ren, reduceCtorEq] at e
    injection e with e
    subst e
    refine .iptr vs (hI _ hI') (by rw [hn, renL_len]) hc fun k a v h1 h2 => ih k (a.ren r) v (by rw [renL_get, h1]; rfl) h2 a rfl
  | sl h hc hl hn hA => intro x e; cases x <;> simp only [AV.ren, reduceCtorEq] at e; injection e with e1 e2 e3 e4; subst e1 e2 e3 e4; exact .sl (by rw [hf]; exact h) hc hl hn hA
  | slnil h hl =>
    intro x e
    cases x <;> simp only [AV.ren, reduceCtorEq] at e
    injection e with e1 e2 e3 e4
    subst e1 e2 e3 e4
    exact .slnil (by rw [hf]; exact h) hl
  | csl h hn hm => intro x e; cases x <;> simp only [AV.ren, reduceCtorEq] at e; injection e with e1 e2 e3 e4 e5; subst e1 e2 e3 e4 e5; exact .csl (by rw [hf]; exact h) hn hm
  | emap hI' hm => intro x e; cases x <;> simp only [AV.ren, reduceCtorEq] at e; exact .emap (hI _ hI') hm
  | bytes hn hc hm h =>
    intro x e
    cases x <;> simp only [AV.ren, reduceCtorEq] at e
    injection e with e
    subst e
    refine .bytes hn hc hm fun h0 => ?_
    obtain ⟨g, o, e, h1, h2⟩ := h h0
    exact ⟨g, o, e, hI _ h1, h2⟩
  | view cells hc hm hA hl hx _ ih =>
    intro x e
    cases x <;> simp only [AV.ren, reduceCtorEq] at e
    injection e with e1 e2 e3
    subst e1 e2 e3
    refine .view cells hc hm (fun h0 => ⟨(hA h0).1, hI _ (hA h0).2⟩) (fun i hi => by have := hl i hi; rwa [renL_len] at this) hx fun i j a hi ha => ih i j (a.ren r) hi (by rw [renL_get, ha]; rfl) a rfl
  | agg hn _ ih =>
    intro x e
    cases x <;> simp only [AV.ren, reduceCtorEq] at e
    injection e with e
    subst e
    exact .agg (by rw [hn, renL_len]) fun k a v h1 h2 => ih k (a.ren r) v (by rw [renL_get, h1]; rfl) h2 a rfl
  | tup hn _ ih =>
    intro x e
    cases x <;> simp only [AV.ren, reduceCtorEq] at e
    injection e with e
    subst e
    exact .tup (by rw [hn, renL_len]) fun k a v h1 h2 => ih k (a.ren r) v (by rw [renL_get, h1]; rfl) h2 a rfl
  | fn hn _ ih =>
    intro x e
    cases x <;> simp only [AV.ren, reduceCtorEq] at e
    injection e with e1 e2
    subst e1 e2
    exact .fn (by rw [hn, renL_len]) fun k a v h1 h2 => ih k (a.ren r) v (by rw [renL_get, h1]; rfl) h2 a rfl
  | opt _ h' ih =>
    intro x e
    cases x <;> simp only [AV.ren, reduceCtorEq] at e
    injection e with e1 e2
    subst e1 e2
    exact .opt (fun hb => ih hb _ rfl) h'

theorem Rep.to_ren (hI : ∀ b, E0.I b → E.I b) (hf : ∀ id p, E0.f id = some p → E.f (r id) = some p) {x : AV} {v : Value} (h : Rep E0 w x v) : Rep E w (x.ren r) v := by
  have get : ∀ (l : List AV) (k : Nat) (a : AV), (renL r l)[k]? = some a → ∃ b, l[k]? = some b ∧ a = b.ren r := fun l k a h => by
    rw [renL_get] at h
    obtain ⟨b, h1, h2⟩ := Option.map_eq_some_iff.1 h
    exact ⟨b, h1, h2.symm⟩
  induction h with
  | val v => simp only [AV.ren]; exact .val _
  | any v => simp only [AV.ren]; exact .any _
  | ptr h => simp only [AV.ren]; exact .ptr (hf _ _ h)
  | iptr vs hI' hn hc _ ih =>
    simp only [AV.ren]
    refine .iptr vs (hI _ hI') (by rw [hn, renL_len]) hc fun k a v h1 h2 => ?_
    obtain ⟨b, h3, rfl⟩ := get _ _ _ h1
    exact ih k b v h3 h2
  | sl h hc hl hn hA => simp only [AV.ren]; exact .sl (hf _ _ h) hc hl hn hA
  | emap h1 h2 => simp only [AV.ren]; exact .emap (hI _ h1) h2
  | slnil h hl => simp only [AV.ren]; exact .slnil (hf _ _ h) hl
  | csl h hn hm => simp only [AV.ren]; exact .csl (hf _ _ h) hn hm
  | bytes hn hc hm h =>
    simp only [AV.ren]
    refine .bytes hn hc hm fun h0 => ?_
    obtain ⟨g, o, e, h1, h2⟩ := h h0
    exact ⟨g, o, e, hI _ h1, h2⟩
  | view cells hc hm hA hl hx _ ih =>
    simp only [AV.ren]
    refine .view cells hc hm (fun h0 => ⟨(hA h0).1, hI _ (hA h0).2⟩) (fun i hi => by rw [renL_len]; exact hl i hi) hx fun i j a hi ha => ?_
    obtain ⟨b, h3, rfl⟩ := get _ _ _ ha
    exact ih i j b hi h3
  | agg hn _ ih =>
    simp only [AV.ren]
    refine .agg (by rw [hn, renL_len]) fun k a v h1 h2 => ?_
    obtain ⟨b, h3, rfl⟩ := get _ _ _ h1
    exact ih k b v h3 h2
  | tup hn _ ih =>
    simp only [AV.ren]
    refine .tup (by rw [hn, renL_len]) fun k a v h1 h2 => ?_
    obtain ⟨b, h3, rfl⟩ := get _ _ _ h1
    exact ih k b v h3 h2
  | fn hn _ ih =>
    simp only [AV.ren]
    refine .fn (by rw [hn, renL_len]) fun k a v h1 h2 => ?_
    obtain ⟨b, h3, rfl⟩ := get _ _ _ h1
    exact ih k b v h3 h2
  | opt _ h' ih => simp only [AV.ren]; exact .opt ih h'
end

def AObj.ren (r : Nat → Nat) (x : AObj) : AObj := { x with body := match x.body with | .rows l => .rows (l.map (renL r)) | .bytes xs => .bytes xs | .flat l => .flat (l.map (renL r)) }
def renH (r : Nat → Nat) : List (Nat × AObj) → List (Nat × AObj)
  | [] => []
  | (k, x) :: l => (r k, x.ren r) :: renH r l

/-- the numbers that stand for 0, 1 .., and new ones from nx on -/
def renN (ids : List Nat) (nx : Nat) (id : Nat) : Nat := ids.getD id (nx + (id - ids.length))
end Go.Proofs.YtfofhpkafhpicaaGreatDoor

/- An engine for walks: objects are numbered anew. -/
namespace Go.Proofs.YtfofhpkafhpicaaGreatDoor
open Go.RowKit

theorem ren_len (r : Nat → Nat) (o : AObj) : (o.ren r).body.len = o.body.len := by
  obtain ⟨t, sz, ex, fz, body⟩ := o
  cases body <;> simp [AObj.ren, Body.len]

theorem ren_cell (r : Nat → Nat) (o : AObj) (i j : Nat) : (o.ren r).body.cell? i j = (o.body.cell? i j).map (AV.ren r) := by
  obtain ⟨t, sz, ex, fz, body⟩ := o
  cases body with
  | rows l =>
    simp only [AObj.ren, Body.cell?, List.getElem?_map]
    cases l[i]? with
    | none => rfl
    | some e => simp [renL_get]
  | flat l =>
    simp only [AObj.ren, Body.cell?, List.getElem?_map]
    cases l[i]? with
    | none => rfl
    | some e => simp [renL_get]
  | bytes xs =>
    simp only [AObj.ren, Body.cell?]
    split
    · cases xs[i]? <;> simp [AV.ren]
    · rfl

theorem ORep.of_ren {E E0 : Env} {w : World} {r : Nat → Nat} (hI : ∀ b, E.I b ↔ E0.I b) (hf : ∀ id, E0.f id = E.f (r id)) {o : AObj} {p : Place} (h : ORep E w (o.ren r) p) : ORep E0 w o p := by
  cases p with
  | nil =>
    obtain ⟨h1, h2⟩ := h
    rw [ren_len] at h1
    exact ⟨h1, h2⟩
  | at_ b c sz =>
    obtain ⟨h1, h2, h3, h4, h5, cur, fr, h6, h7, h8, h9⟩ := h
    rw [ren_len] at h3 h5 h9
    refine ⟨h1, fun h => h2 ((hI b).2 h), h3, h4, h5, cur, fr, h6, h7, h8, fun i hi j hj => ?_⟩
    obtain ⟨a, v, e1, e2, e3⟩ := h9 i hi j hj
    rw [ren_cell] at e1
    obtain ⟨x, e4, rfl⟩ := Option.map_eq_some_iff.1 e1
    exact ⟨x, v, e4, e2, Rep.of_ren (fun b h => (hI b).1 h) hf e3 x rfl⟩

/-- what is so under these numbers is so under others -/
theorem Sat.renumber {E : Env} {nx nx' : Nat} {H H' : Heap} {w : World} (s : Sat E nx H w) (r : Nat → Nat) (hr : ∀ i j, r i = r j → i = j) (hnx : ∀ id, nx' ≤ id → nx ≤ r id) (hH : ∀ id x, H' id = some x → H (r id) = some (x.ren r)) :
    Sat ⟨fun id => E.f (r id), E.I⟩ nx' H' w where
  rows := fun id o h => by
    obtain ⟨p, hp, ro⟩ := s.rows _ _ (hH id o h)
    exact ⟨p, hp, ORep.of_ren (E := E) (E0 := ⟨fun id => E.f (r id), E.I⟩) (r := r) (fun _ => Iff.rfl) (fun _ => rfl) ro⟩
  inj := fun id id' o o' b c z c' z' h h' e e' => hr _ _ (s.inj _ _ _ _ _ _ _ _ _ (hH _ _ h) (hH _ _ h') e e')
  fresh := fun id h => s.fresh _ (hnx id h)
  imm := s.imm

theorem Hb.of_renumber {E : Env} {H H' : Heap} {r : Nat → Nat} (hH : ∀ id x, H' id = some x → H (r id) = some (x.ren r)) {b : Nat} (h : Hb ⟨fun id => E.f (r id), E.I⟩ H' b) : Hb E H b := by
  obtain ⟨id, o, c, z, h1, h2⟩ := h
  exact ⟨r id, _, c, z, hH _ _ h1, h2⟩

theorem renN_inj {ids : List Nat} {nx : Nat} (hd : ids.Nodup) (hl : ∀ x ∈ ids, x < nx) (i j : Nat) (h : renN ids nx i = renN ids nx j) : i = j := by
  unfold renN at h
  rw [List.getD_eq_getElem?_getD, List.getD_eq_getElem?_getD] at h
  by_cases hi : i < ids.length <;> by_cases hj : j < ids.length
  · rw [List.getElem?_eq_getElem hi, List.getElem?_eq_getElem hj, Option.getD_some, Option.getD_some] at h
    have hp := List.pairwise_iff_getElem.1 hd
    rcases Nat.lt_trichotomy i j with hc | hc | hc
    · exact absurd h (hp i j hi hj hc)
    · exact hc
    · exact absurd h.symm (hp j i hj hi hc)
  · rw [List.getElem?_eq_getElem hi, List.getElem?_eq_none (by omega), Option.getD_some, Option.getD_none] at h
    have := hl _ (List.getElem_mem hi)
    omega
  · rw [List.getElem?_eq_none (by omega), List.getElem?_eq_getElem hj, Option.getD_some, Option.getD_none] at h
    have := hl _ (List.getElem_mem hj)
    omega
  · rw [List.getElem?_eq_none (by omega), List.getElem?_eq_none (by omega), Option.getD_none, Option.getD_none] at h
    omega

theorem renN_fresh {ids : List Nat} {nx : Nat} (id : Nat) (h : ids.length ≤ id) : nx ≤ renN ids nx id := by
  unfold renN
  rw [List.getD_eq_getElem?_getD, List.getElem?_eq_none h, Option.getD_none]
  omega

/-! ### runs of which only the old blocks' frame is asked -/
structure Base (w0 : World) (E : Env) (H : Heap) (w : World) : Prop where
  hb : ∀ b, Hb E H b → w0.heap.size ≤ b
  fr : ∀ b, b < w0.heap.size → w.heap[b]? = w0.heap[b]?
  size : w0.heap.size ≤ w.heap.size
  os : w.os = w0.os
  tape : w.tape = w0.tape
  output : w.output = w0.output

theorem Base.ext {w0 w w' : World} {E E' : Env} {H H' : Heap} {N : Nat → Prop} (h : Base w0 E H w) (x : Ext E H w N E' H' w') : Base w0 E' H' w' where
  hb := fun b hb => (x.hb b hb).elim (h.hb b) fun h' => Nat.le_trans h.size h'
  fr := fun b hb => (x.fr b (Nat.lt_of_lt_of_le hb h.size) fun h' => absurd (h.hb b h') (Nat.not_le.2 hb)).trans (h.fr b hb)
  size := Nat.le_trans h.size x.size
  os := x.os.trans h.os
  tape := x.tape.trans h.tape
  output := x.output.trans h.output

/-- as Ev, but objects may have other numbers at the end -/
def EvW (P : Program) (c : Code) (st : St) (ex : Ex) (st' : St) : Prop :=
  ∀ (w0 : World) (E : Env) (a : Act) (w : World), Sat E st.nx (heapF st.hp) w → RepS E w st a → Base w0 E (heapF st.hp) w → ∀ (Q : Exit → Act → World → Prop),
    (∀ E' a' w', Sat E' st'.nx (heapF st'.hp) w' → RepS E' w' st' a' → Base w0 E' (heapF st'.hp) w' → a'.defers = a.defers → Q ex.to a' w') → c.wp P Q a w

theorem Ev.toW {P : Program} {c : Code} {st s : St} {ex : Ex} (h : Ev P c st ex s) : EvW P c st ex s :=
  fun _ E a w hs hr hb Q hQ => h E a w hs hr Q fun E' a' w' t1 t2 t3 t4 _ => hQ E' a' w' t1 t2 (hb.ext t3) t4

/-- s' says what s says, under other numbers -/
structure Renum (s' s : St) : Prop where
  len : s'.len = s.len
  r : ∃ r : Nat → Nat, (∀ i j, r i = r j → i = j) ∧ (∀ id, s'.nx ≤ id → s.nx ≤ r id) ∧ (∀ id x, heapF s'.hp id = some x → heapF s.hp (r id) = some (x.ren r)) ∧ ∀ t, tmF s' t = .any ∨ tmF s t = (tmF s' t).ren r

theorem EvW.renum {P : Program} {c : Code} {st s s' : St} {ex : Ex} (h : EvW P c st ex s) (l : Renum s' s) : EvW P c st ex s' := by
  intro w0 E a w hs hr hb Q hQ
  obtain ⟨hl, r, h1, h2, h3, h4⟩ := l
  refine h w0 E a w hs hr hb Q fun E' a' w' t1 t2 t3 t4 => hQ ⟨fun id => E'.f (r id), E'.I⟩ a' w' (t1.renumber r h1 h2 h3) ⟨t2.size.trans hl.symm, fun t => ?_⟩ ⟨fun b hb => t3.hb b (Hb.of_renumber h3 hb), t3.fr, t3.size, t3.os, t3.tape, t3.output⟩ t4
  rcases h4 t with h | h
  · rw [h]; exact .any _
  · exact Rep.of_ren (E := E') (E0 := ⟨fun id => E'.f (r id), E'.I⟩) (r := r) (fun _ h => h) (fun _ => rfl) (t2.rep t) _ h

theorem EvW.seq {P : Program} {x y : Code} {st s s' : St} {ex : Ex} (h1 : EvW P x st .normal s) (h2 : EvW P y s ex s') : EvW P (.seq x y) st ex s' :=
  fun w0 E a w hs hr hb Q hQ => wp_seq (h1 w0 E a w hs hr hb _ fun E1 a1 w1 t1 t2 t3 t4 => h2 w0 E1 a1 w1 t1 t2 t3 Q fun E2 a2 w2 u1 u2 u3 u4 => hQ E2 a2 w2 u1 u2 u3 (u4.trans t4))

/-- so many rounds -/
def EvWR (P : Program) (c : Code) (n : Nat) (st : St) (ex : Ex) (s : St) : Prop :=
  ∀ (w0 : World) (E : Env) (a : Act) (w : World), Sat E st.nx (heapF st.hp) w → RepS E w st a → Base w0 E (heapF st.hp) w → ∀ (Q : Exit → Act → World → Prop),
    (∀ E' a' w', Sat E' s.nx (heapF s.hp) w' → RepS E' w' s a' → Base w0 E' (heapF s.hp) w' → a'.defers = a.defers → Q ex.to a' w') → Code.rounds P c Q n a w

theorem EvWR.step {P : Program} {c : Code} {n : Nat} {st s s' : St} {ex : Ex} (h1 : EvW P c st .normal s) (h2 : EvWR P c n s ex s') : EvWR P c (n + 1) st ex s' := by
  intro w0 E a w hs hr hb Q hQ
  rw [rounds_succ]
  exact h1 w0 E a w hs hr hb _ fun E1 a1 w1 t1 t2 t3 t4 => h2 w0 E1 a1 w1 t1 t2 t3 Q fun E2 a2 w2 u1 u2 u3 u4 => hQ E2 a2 w2 u1 u2 u3 (u4.trans t4)

theorem EvWR.last {P : Program} {c : Code} {st s : St} {e : Nat} (h : EvW P c st (.exit e) s) : EvWR P c 1 st (.exit e) s := by
  intro w0 E a w hs hr hb Q hQ
  rw [rounds_succ]
  exact h w0 E a w hs hr hb _ fun E1 a1 w1 t1 t2 t3 t4 => hQ E1 a1 w1 t1 t2 t3 t4

theorem EvWR.loop {P : Program} {c : Code} {n : Nat} {st s : St} {ex : Ex} (h : EvWR P c n st ex s) : EvW P (.loop c) st ex s :=
  fun w0 E a w hs hr hb Q hQ => wp_loop_rounds n (h w0 E a w hs hr hb Q hQ)
end Go.Proofs.YtfofhpkafhpicaaGreatDoor
