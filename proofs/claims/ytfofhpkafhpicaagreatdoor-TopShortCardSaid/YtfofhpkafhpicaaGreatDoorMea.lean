/- Several texts in one: Ea, Eb, Ec, Ed, Emp. -/
import Derived.Test.YtfofhpkafhpicaaGreatDoorKit
import Derived.DeepKeys3

/- An engine for walks, first part: what a value in a frame stands for, what an object in memory holds, and when a world bears them. Plain theorems over any program. -/
namespace Go.Proofs.YtfofhpkafhpicaaGreatDoor
open Go.RowKit

/-- what a temporary holds: an exact value; nobody knows; a cell of an object of the walk's own; a place that is never written; slices of an object; slices that are never written; structs; functions -/
inductive AV where
  | val (v : Value)
  | any
  | ptr (id i j : Nat)
  | iptr (l : List AV)
  | sl (id off n : Nat) (lim : Option Nat)
  | csl (id i j n c : Nat)
  | bytes (xs : List UInt8)
  | view (sz n : Nat) (g : Nat → List AV)
  | agg (l : List AV)
  | tup (l : List AV)
  | fn (f : Fn) (cap : List AV)
  | opt (b : Bool) (v : AV)
  | emap

inductive Place where
  | nil
  | at_ (b c sz : Nat)

/-- where the objects lie; which blocks are never written again -/
structure Env where
  f : Nat → Option Place
  I : Nat → Prop

inductive Rep (E : Env) (w : World) : AV → Value → Prop where
  | val (v : Value) : Rep E w (.val v) v
  | any (v : Value) : Rep E w .any v
  | ptr {id i j b c sz : Nat} (h : E.f id = some (.at_ b c sz)) : Rep E w (.ptr id i j) (.pointer (some ⟨b, i * sz + j, none⟩))
  | iptr {l : List AV} {g o : Nat} (vs : List Value) (hI : E.I g) (hn : vs.length = l.length) (hc : ∀ (k : Nat) v, vs[k]? = some v → w.cell? ⟨g, o + k, none⟩ = some v)
      (hr : ∀ (k : Nat) a v, l[k]? = some a → vs[k]? = some v → Rep E w a v) : Rep E w (.iptr l) (.pointer (some ⟨g, o, none⟩))
  | sl {id off n b c sz cap : Nat} {lim : Option Nat} {A : Option Addr} (h : E.f id = some (.at_ b c sz)) (hc : cap + off = lim.getD c) (hl : lim.getD c ≤ c) (hn : n ≤ cap)
      (hA : (cap = 0 ∧ off ≠ 0) ∨ A = some ⟨b, off * sz, none⟩) : Rep E w (.sl id off n lim) (.slice A n cap)
  | slnil {id : Nat} {lim : Option Nat} (h : E.f id = some .nil) (hl : lim.getD 0 = 0) : Rep E w (.sl id 0 0 lim) (.slice none 0 0)
  | csl {id i j n c b c' sz : Nat} (h : E.f id = some (.at_ b c' sz)) (hn : n ≤ c) (hm : c ≤ maxLen) : Rep E w (.csl id i j n c) (.slice (some ⟨b, i * sz + j, none⟩) n c)
  | bytes {xs : List UInt8} {A : Option Addr} {n c : Nat} (hn : xs.length = n) (hc : n ≤ c) (hm : c ≤ maxLen)
      (h : 0 < n → ∃ g o, A = some ⟨g, o, none⟩ ∧ E.I g ∧ ∀ (i : Nat) x, xs[i]? = some x → w.cell? ⟨g, o + i, none⟩ = some (bv x)) : Rep E w (.bytes xs) (.slice A n c)
  | view {sz n c b o : Nat} {g : Nat → List AV} {A : Option Addr} (cells : Nat → Nat → Value) (hc : n ≤ c) (hm : c ≤ maxLen) (hA : 0 < n → A = some ⟨b, o, none⟩ ∧ E.I b)
      (hl : ∀ i, i < n → (g i).length = sz) (hcell : ∀ i j, i < n → j < sz → w.cell? ⟨b, o + i * sz + j, none⟩ = some (cells i j))
      (hr : ∀ (i j : Nat) a, i < n → (g i)[j]? = some a → Rep E w a (cells i j)) : Rep E w (.view sz n g) (.slice A n c)
  | agg {l : List AV} {cs : Array Value} (hn : cs.size = l.length) (h : ∀ (k : Nat) a v, l[k]? = some a → cs[k]? = some v → Rep E w a v) : Rep E w (.agg l) (.agg cs)
  | tup {l : List AV} {cs : Array Value} (hn : cs.size = l.length) (h : ∀ (k : Nat) a v, l[k]? = some a → cs[k]? = some v → Rep E w a v) : Rep E w (.tup l) (.tuple cs)
  | fn {f : Fn} {l : List AV} {cs : Array Value} (hn : cs.size = l.length) (h : ∀ (k : Nat) a v, l[k]? = some a → cs[k]? = some v → Rep E w a v) : Rep E w (.fn f l) (.func f #[] cs)
  | opt {b : Bool} {a : AV} {v : Value} (h : b = true → Rep E w a v) (h' : b = false → v = .tuple #[]) : Rep E w (.opt b a) v
  | emap {r : Nat} (hI : E.I r) (hm : w.heap[r]? = some (.map #[] 0)) : Rep E w .emap (.map (some r))

/-- more is known, and nothing that is never written has been -/
structure More (E : Env) (w : World) (E' : Env) (w' : World) : Prop where
  f : ∀ id p, E.f id = some p → E'.f id = some p
  I : ∀ b, E.I b → E'.I b
  mem : ∀ b, E.I b → w'.heap[b]? = w.heap[b]?

theorem Rep.more {E E' : Env} {w w' : World} (m : More E w E' w') {a : AV} {v : Value} (h : Rep E w a v) : Rep E' w' a v := by
  have hcell : ∀ g o v, E.I g → w.cell? ⟨g, o, none⟩ = some v → w'.cell? ⟨g, o, none⟩ = some v := fun g o v hI hc => by
    rw [World.cell?_of_block (w := w) (m.mem g hI)]; exact hc
  induction h with
  | val v => exact .val v
  | any v => exact .any v
  | ptr h => exact .ptr (m.f _ _ h)
  | iptr vs hI hn hc _ ih => exact .iptr vs (m.I _ hI) hn (fun k v hv => hcell _ _ _ hI (hc k v hv)) ih
  | sl h hc hl hn hA => exact .sl (m.f _ _ h) hc hl hn hA
  | slnil h hl => exact .slnil (m.f _ _ h) hl
  | csl h hn hm => exact .csl (m.f _ _ h) hn hm
  | bytes hn hc hm h =>
    refine .bytes hn hc hm fun h0 => ?_
    obtain ⟨g, o, e, hI, hx⟩ := h h0
    exact ⟨g, o, e, m.I _ hI, fun i x hi => hcell _ _ _ hI (hx i x hi)⟩
  | view cells hc hm hA hl hx _ ih => exact .view cells hc hm (fun h0 => ⟨(hA h0).1, m.I _ (hA h0).2⟩) hl (fun i j hi hj => hcell _ _ _ (hA (by omega)).2 (hx i j hi hj)) ih
  | agg hn _ ih => exact .agg hn ih
  | tup hn _ ih => exact .tup hn ih
  | fn hn _ ih => exact .fn hn ih
  | opt _ h' ih => exact .opt ih h'
  | emap hI hm => exact .emap (m.I _ hI) (by rw [m.mem _ hI]; exact hm)

theorem Rep.same {E : Env} {w w' : World} (h' : ∀ b, E.I b → w'.heap[b]? = w.heap[b]?) {a : AV} {v : Value} (h : Rep E w a v) : Rep E w' a v :=
  h.more ⟨fun _ _ h => h, fun _ h => h, h'⟩

/-- does a value of this kind fill one cell? -/
def AV.one : AV → Bool
  | .val v => v.oneCell'
  | .any | .agg _ | .tup _ | .opt _ _ => false
  | _ => true

theorem Rep.one {E : Env} {w : World} {a : AV} {v : Value} (h : Rep E w a v) (ho : a.one = true) : v.oneCell' = true := by
  cases h <;> first | exact ho | rfl | cases ho

/-! ### objects -/
inductive Body where
  | rows (l : List (List AV))
  | bytes (xs : List UInt8)
  | flat (l : List (List AV))

def Body.len : Body → Nat
  | .rows l => l.length
  | .bytes xs => xs.length
  | .flat l => l.length

/-- cell j of element i -/
def Body.cell? : Body → Nat → Nat → Option AV
  | .rows l, i, j => (l[i]?).bind (·[j]?)
  | .bytes xs, i, j => if j = 0 then (xs[i]?).map fun x => .val (bv x) else none
  | .flat l, i, j => (l[i]?).bind (·[j]?)

structure AObj where
  t : TypeId
  sz : Nat
  exact : Bool
  fz : Bool
  body : Body

abbrev Heap := Nat → Option AObj

/-- the object lies at its place -/
def ORep (E : Env) (w : World) (o : AObj) : Place → Prop
  | .nil => o.body.len = 0 ∧ o.exact = false
  | .at_ b c sz => sz = o.sz ∧ ¬ E.I b ∧ o.body.len ≤ c ∧ c ≤ maxLen ∧ (o.exact = true → c = o.body.len) ∧
    ∃ cur fr, w.heap[b]? = some (.cells cur o.t fr) ∧ cur.size = c * sz ∧ (fr = (0, 0) ∨ (o.fz = true ∧ c * sz ≤ fr.1)) ∧
      ∀ i, i < o.body.len → ∀ j, j < sz → ∃ a v, o.body.cell? i j = some a ∧ cur[i * sz + j]? = some v ∧ Rep E w a v

structure Sat (E : Env) (nx : Nat) (H : Heap) (w : World) : Prop where
  rows : ∀ id o, H id = some o → ∃ p, E.f id = some p ∧ ORep E w o p
  inj : ∀ id id' o o' b c s c' s', H id = some o → H id' = some o' → E.f id = some (.at_ b c s) → E.f id' = some (.at_ b c' s') → id = id'
  fresh : ∀ id, nx ≤ id → E.f id = none
  imm : ∀ b, E.I b → b < w.heap.size

/-- block b is one of H's objects -/
def Hb (E : Env) (H : Heap) (b : Nat) : Prop := ∃ id o c s, H id = some o ∧ E.f id = some (.at_ b c s)

structure Ext (E : Env) (H : Heap) (w : World) (N : Nat → Prop) (E' : Env) (H' : Heap) (w' : World) : Prop where
  f : ∀ id p, E.f id = some p → E'.f id = some p
  nw : ∀ id p, E'.f id = some p → E.f id = some p ∨ N id
  I : ∀ b, E.I b → E'.I b
  I' : ∀ b, E'.I b → E.I b ∨ w.heap.size ≤ b ∨ Hb E H b
  fr : ∀ b, b < w.heap.size → ¬ Hb E H b → w'.heap[b]? = w.heap[b]?
  hb : ∀ b, Hb E' H' b → Hb E H b ∨ w.heap.size ≤ b
  size : w.heap.size ≤ w'.heap.size
  os : w'.os = w.os
  tape : w'.tape = w.tape
  output : w'.output = w.output

section
variable {E E' E'' : Env} {H H' H'' : Heap} {w w' w'' : World} {N N' : Nat → Prop} {nx nx' : Nat}

theorem Sat.lt (s : Sat E nx H w) {id b c sz : Nat} {o : AObj} (h : H id = some o) (hf : E.f id = some (.at_ b c sz)) : b < w.heap.size := by
  obtain ⟨p, hp, r⟩ := s.rows _ _ h
  rw [hf] at hp
  cases hp
  obtain ⟨_, _, _, _, _, cur, fr, hg, _⟩ := r
  exact (Array.getElem?_eq_some_iff.1 hg).1

theorem Sat.hb_lt (s : Sat E nx H w) {b : Nat} (h : Hb E H b) : b < w.heap.size := by
  obtain ⟨id, o, c, sz, h1, h2⟩ := h
  exact s.lt h1 h2

theorem Sat.notI (s : Sat E nx H w) {b : Nat} (h : Hb E H b) : ¬ E.I b := by
  obtain ⟨id, o, c, sz, h1, h2⟩ := h
  obtain ⟨p, hp, r⟩ := s.rows _ _ h1
  rw [h2] at hp
  cases hp
  exact r.2.1

theorem Ext.more (s : Sat E nx H w) (x : Ext E H w N E' H' w') : More E w E' w' :=
  ⟨x.f, x.I, fun b hb => x.fr b (s.imm b hb) fun h => s.notI h hb⟩

theorem Ext.refl (_ : Sat E nx H w) : Ext E H w N E H w :=
  ⟨fun _ _ h => h, fun _ _ h => .inl h, fun _ h => h, fun _ h => .inl h, fun _ _ _ => rfl, fun _ h => .inl h, Nat.le_refl _, rfl, rfl, rfl⟩

theorem Ext.trans (x : Ext E H w N E' H' w') (y : Ext E' H' w' N' E'' H'' w'') {M : Nat → Prop} (hN : ∀ id, N id → M id) (hN' : ∀ id, N' id → M id) : Ext E H w M E'' H'' w'' := by
  refine ⟨fun id p h => y.f _ _ (x.f _ _ h), fun id p h => ?_, fun b h => y.I _ (x.I _ h), fun b h => ?_, fun b h1 h2 => ?_, fun b h => ?_, Nat.le_trans x.size y.size, y.os.trans x.os, y.tape.trans x.tape, y.output.trans x.output⟩
  · rcases y.nw _ _ h with h | h
    · rcases x.nw _ _ h with h | h
      · exact .inl h
      · exact .inr (hN _ h)
    · exact .inr (hN' _ h)
  · rcases y.I' _ h with h | h | h
    · exact x.I' _ h
    · exact .inr (.inl (Nat.le_trans x.size h))
    · rcases x.hb _ h with h | h
      · exact .inr (.inr h)
      · exact .inr (.inl h)
  · rw [y.fr b (Nat.lt_of_lt_of_le h1 x.size) (fun h => ?_), x.fr b h1 h2]
    rcases x.hb _ h with h | h
    · exact h2 h
    · omega
  · rcases y.hb _ h with h | h
    · exact x.hb _ h
    · exact .inr (Nat.le_trans x.size h)

theorem Ext.weaken (x : Ext E H w N E' H' w') (hN : ∀ id, N id → N' id) : Ext E H w N' E' H' w' :=
  ⟨x.f, fun id p h => (x.nw id p h).imp (fun h => h) (hN id), x.I, x.I', x.fr, x.hb, x.size, x.os, x.tape, x.output⟩

theorem ORep.more (m : More E w E' w') {o : AObj} {b c sz : Nat} (h : ORep E w o (.at_ b c sz)) (hI : ¬ E'.I b) (hb : w'.heap[b]? = w.heap[b]?) : ORep E' w' o (.at_ b c sz) := by
  obtain ⟨h1, _, h3, h4, h5, cur, fr, hg, hs, hf, hc⟩ := h
  refine ⟨h1, hI, h3, h4, h5, cur, fr, by rw [hb]; exact hg, hs, hf, fun i hi j hj => ?_⟩
  obtain ⟨a, v, e1, e2, r⟩ := hc i hi j hj
  exact ⟨a, v, e1, e2, r.more m⟩

/-- the frame: what else there was is there still -/
theorem Sat.frame {Hf Hf' : Heap} (s : Sat E nx H w) (hsub : ∀ id o, Hf id = some o → H id = some o) (x : Ext E Hf w N E' Hf' w') (s' : Sat E' nx' Hf' w')
    {K : Heap} (hK : ∀ id o, K id = some o → Hf' id = some o ∨ (H id = some o ∧ Hf id = none)) : Sat E' nx' K w' ∧ Ext E H w N E' K w' := by
  have m : More E w E' w' := ⟨x.f, x.I, fun b hb => x.fr b (s.imm b hb) fun ⟨id, o, c, sz, h1, h2⟩ => s.notI ⟨id, o, c, sz, hsub _ _ h1, h2⟩ hb⟩
  have old : ∀ id o b c sz, H id = some o → Hf id = none → E.f id = some (.at_ b c sz) → ¬ Hb E Hf b := by
    rintro id o b c sz h1 h2 h3 ⟨id', o', c', s', h4, h5⟩
    have := s.inj _ _ _ _ _ _ _ _ _ h1 (hsub _ _ h4) h3 h5
    subst this
    rw [h2] at h4
    cases h4
  have hEq : ∀ id o, H id = some o → ∀ p, E'.f id = some p → E.f id = some p := by
    intro id o h p hp
    obtain ⟨q, hq, _⟩ := s.rows _ _ h
    have := x.f _ _ hq
    rw [hp] at this
    cases this
    exact hq
  refine ⟨⟨fun id o h => ?_, ?_, s'.fresh, s'.imm⟩, ?_⟩
  · rcases hK _ _ h with h | ⟨h1, h2⟩
    · exact s'.rows _ _ h
    · obtain ⟨p, hp, r⟩ := s.rows _ _ h1
      refine ⟨p, x.f _ _ hp, ?_⟩
      cases p with
      | nil => exact r
      | at_ b c sz =>
        have hlt := s.lt h1 hp
        have hno := old _ _ _ _ _ h1 h2 hp
        refine r.more m (fun hI => ?_) (x.fr b hlt hno)
        rcases x.I' _ hI with h | h | h
        · exact s.notI ⟨id, o, c, sz, h1, hp⟩ h
        · omega
        · exact hno h
  · intro id id' o o' b c sz c' sz' h h' hf hf'
    rcases hK _ _ h with h | ⟨h1, h2⟩ <;> rcases hK _ _ h' with h' | ⟨h1', h2'⟩
    · exact s'.inj _ _ _ _ _ _ _ _ _ h h' hf hf'
    · exfalso
      have hp' := hEq _ _ h1' _ hf'
      rcases x.hb b ⟨_, _, _, _, h, hf⟩ with hh | hh
      · exact old _ _ _ _ _ h1' h2' hp' hh
      · have := s.lt h1' hp'; omega
    · exfalso
      have hp := hEq _ _ h1 _ hf
      rcases x.hb b ⟨_, _, _, _, h', hf'⟩ with hh | hh
      · exact old _ _ _ _ _ h1 h2 hp hh
      · have := s.lt h1 hp; omega
    · exact s.inj _ _ _ _ _ _ _ _ _ h1 h1' (hEq _ _ h1 _ hf) (hEq _ _ h1' _ hf')
  · have hbS : ∀ b, Hb E Hf b → Hb E H b := fun b ⟨id, o, c, sz, h1, h2⟩ => ⟨id, o, c, sz, hsub _ _ h1, h2⟩
    refine ⟨x.f, x.nw, x.I, fun b h => ?_, fun b h1 h2 => x.fr b h1 fun h => h2 (hbS b h), ?_, x.size, x.os, x.tape, x.output⟩
    · rcases x.I' _ h with h | h | h
      · exact .inl h
      · exact .inr (.inl h)
      · exact .inr (.inr (hbS _ h))
    · rintro b ⟨id, o, c, sz, h1, h2⟩
      rcases hK _ _ h1 with h | ⟨h3, h4⟩
      · exact (x.hb b ⟨id, o, c, sz, h, h2⟩).imp (hbS b) (fun h => h)
      · exact .inl ⟨id, o, c, sz, h3, hEq _ _ h3 _ h2⟩

/-- less may be said of a world -/
theorem Sat.sub {K : Heap} (s : Sat E nx H w) (hsub : ∀ id o, K id = some o → H id = some o) : Sat E nx K w :=
  ⟨fun id o h => s.rows id o (hsub _ _ h), fun id id' o o' b c sz c' sz' h h' => s.inj id id' o o' b c sz c' sz' (hsub _ _ h) (hsub _ _ h'), s.fresh, s.imm⟩

theorem Sat.up (s : Sat E nx H w) (h : nx ≤ nx') : Sat E nx' H w := ⟨s.rows, s.inj, fun id hid => s.fresh id (by omega), s.imm⟩

/-- a world of the same memory -/
theorem Sat.heap (s : Sat E nx H w) (hh : w'.heap = w.heap) : Sat E nx H w' := by
  have m : More E w E w' := ⟨fun _ _ h => h, fun _ h => h, fun b _ => by rw [hh]⟩
  refine ⟨fun id o h => ?_, s.inj, s.fresh, fun b hb => by rw [hh]; exact s.imm b hb⟩
  obtain ⟨p, hp, r⟩ := s.rows _ _ h
  refine ⟨p, hp, ?_⟩
  cases p with
  | nil => exact r
  | at_ b c sz => exact r.more m r.2.1 (by rw [hh])

theorem Ext.heap (_ : Sat E nx H w) (hh : w'.heap = w.heap) (ho : w'.os = w.os) (ht : w'.tape = w.tape) (hu : w'.output = w.output) : Ext E H w N E H w' :=
  ⟨fun _ _ h => h, fun _ _ h => .inl h, fun _ h => h, fun _ h => .inl h, fun _ _ _ => by rw [hh], fun _ h => .inl h, by rw [hh]; exact Nat.le_refl _, ho, ht, hu⟩
end
end Go.Proofs.YtfofhpkafhpicaaGreatDoor

/- An engine for walks, second part: how the world may turn at one operation: a new object, an object written in place, an object that goes on under another number, an object that is never written again. -/
namespace Go.Proofs.YtfofhpkafhpicaaGreatDoor
open Go.RowKit

def upd (H : Heap) (id : Nat) (o : Option AObj) : Heap := fun k => if k = id then o else H k
def applyU (H : Heap) (us : List (Nat × Option AObj)) : Heap := us.foldl (fun H u => upd H u.1 u.2) H

theorem upd_same (H : Heap) (id : Nat) (o : Option AObj) : upd H id o id = o := by simp [upd]
theorem upd_other (H : Heap) {id k : Nat} (o : Option AObj) (h : k ≠ id) : upd H id o k = H k := by simp [upd, h]

/-- the two worlds differ in their memory alone -/
structure Mem (w w' : World) : Prop where
  os : w'.os = w.os
  tape : w'.tape = w.tape
  output : w'.output = w.output

section
variable {E : Env} {H : Heap} {w w' : World} {N : Nat → Prop} {nx : Nat}

/-- the environment with one place more -/
def Env.put (E : Env) (id : Nat) (p : Place) : Env := ⟨fun k => if k = id then some p else E.f k, E.I⟩

theorem Env.put_same (E : Env) (id : Nat) (p : Place) : (E.put id p).f id = some p := by simp [Env.put]
theorem Env.put_old {E : Env} {id : Nat} (p : Place) (hn : E.f id = none) : ∀ k q, E.f k = some q → (E.put id p).f k = some q := by
  intro k q h
  simp only [Env.put]
  split
  · subst_vars; rw [hn] at h; cases h
  · exact h
theorem Env.put_inv {E : Env} {id : Nat} {p : Place} {k : Nat} {q : Place} (h : (E.put id p).f k = some q) : (k = id ∧ q = p) ∨ (k ≠ id ∧ E.f k = some q) := by
  simp only [Env.put] at h
  split at h
  · injection h with h; exact .inl ⟨by assumption, h.symm⟩
  · exact .inr ⟨by assumption, h⟩

theorem Sat.none_of (s : Sat E nx H w) {id : Nat} (h : E.f id = none) : H id = none := by
  cases hh : H id with
  | none => rfl
  | some o => obtain ⟨p, hp, _⟩ := s.rows _ _ hh; rw [h] at hp; cases hp

/-- a new object in a new block -/
theorem sat_new (s : Sat E nx H w) {rid nx' : Nat} (hr : E.f rid = none) (hnx : nx ≤ nx') (hrid : rid < nx') {cur : Array Value} {fr : Nat × Nat} {o : AObj} {c : Nat}
    (hh : w'.heap = w.heap.push (.cells cur o.t fr)) (hm : Mem w w') (hs : cur.size = c * o.sz) (hl : o.body.len ≤ c) (hc : c ≤ maxLen) (he : o.exact = true → c = o.body.len) (hfr : fr = (0, 0) ∨ (o.fz = true ∧ c * o.sz ≤ fr.1))
    (hcells : ∀ i, i < o.body.len → ∀ j, j < o.sz → ∃ a v, o.body.cell? i j = some a ∧ cur[i * o.sz + j]? = some v ∧ Rep E w a v) :
    Sat (E.put rid (.at_ w.heap.size c o.sz)) nx' (upd H rid (some o)) w' ∧ Ext E H w (fun id => id = rid) (E.put rid (.at_ w.heap.size c o.sz)) (upd H rid (some o)) w' := by
  have hsz : w'.heap.size = w.heap.size + 1 := by rw [hh, Array.size_push]
  have hold : ∀ k, k < w.heap.size → w'.heap[k]? = w.heap[k]? := fun k hk => by rw [hh, Array.getElem?_push, if_neg (by omega)]
  have hnew : w'.heap[w.heap.size]? = some (.cells cur o.t fr) := by rw [hh, Array.getElem?_push, if_pos rfl]
  have m : More E w (E.put rid (.at_ w.heap.size c o.sz)) w' := ⟨Env.put_old _ hr, fun _ h => h, fun b hb => hold b (s.imm b hb)⟩
  have hno : ¬ E.I w.heap.size := fun h => by have := s.imm _ h; omega
  refine ⟨⟨fun id x h => ?_, fun id id' x x' b c1 z1 c2 z2 h h' hf hf' => ?_, fun id hid => ?_, fun b hb => by have := s.imm b hb; omega⟩, ?_⟩
  · by_cases hid : id = rid
    · subst hid
      rw [upd_same] at h
      cases h
      refine ⟨_, Env.put_same _ _ _, rfl, hno, hl, hc, he, cur, fr, hnew, hs, hfr, fun i hi j hj => ?_⟩
      obtain ⟨a, v, e1, e2, r⟩ := hcells i hi j hj
      exact ⟨a, v, e1, e2, r.more m⟩
    · rw [upd_other _ _ hid] at h
      obtain ⟨p, hp, r⟩ := s.rows _ _ h
      refine ⟨p, m.f _ _ hp, ?_⟩
      cases p with
      | nil => exact r
      | at_ b c1 z1 => exact r.more m r.2.1 (hold b (s.lt h hp))
  · have key : ∀ k y b c1 z1, upd H rid (some o) k = some y → (E.put rid (.at_ w.heap.size c o.sz)).f k = some (.at_ b c1 z1) → (k = rid ∧ b = w.heap.size) ∨ (k ≠ rid ∧ H k = some y ∧ E.f k = some (.at_ b c1 z1) ∧ b < w.heap.size) := by
      intro k y b c1 z1 hk hfk
      rcases Env.put_inv hfk with ⟨e, q⟩ | ⟨e, q⟩
      · injection q with q1 q2 q3
        exact .inl ⟨e, q1⟩
      · rw [upd_other _ _ e] at hk
        exact .inr ⟨e, hk, q, s.lt hk q⟩
    rcases key _ _ _ _ _ h hf with ⟨e1, e2⟩ | ⟨e1, e2, e3, e4⟩ <;> rcases key _ _ _ _ _ h' hf' with ⟨d1, d2⟩ | ⟨d1, d2, d3, d4⟩
    · rw [e1, d1]
    · omega
    · omega
    · exact s.inj _ _ _ _ _ _ _ _ _ e2 d2 e3 d3
  · simp only [Env.put]
    rw [if_neg (by omega)]
    exact s.fresh id (by omega)
  · refine ⟨m.f, fun id p h => ?_, fun _ h => h, fun _ h => .inl h, fun b hb _ => hold b hb, ?_, by omega, hm.os, hm.tape, hm.output⟩
    · rcases Env.put_inv h with ⟨e, _⟩ | ⟨_, q⟩
      · exact .inr e
      · exact .inl q
    · rintro b ⟨id, x, c1, z1, h, hf⟩
      rcases Env.put_inv hf with ⟨_, q⟩ | ⟨e, q⟩
      · injection q with q1
        exact .inr (by omega)
      · rw [upd_other _ _ e] at h
        exact .inl ⟨id, x, c1, z1, h, q⟩

/-- an object written in place; it may go on under another number -/
theorem sat_set (s : Sat E nx H w) {id b c sz : Nat} {o o' : AObj} (hid : H id = some o) (hf : E.f id = some (.at_ b c sz)) {cur' : Array Value} {fr : Nat × Nat}
    (hb : w'.heap[b]? = some (.cells cur' o'.t fr)) (hk : ∀ k, k ≠ b → w'.heap[k]? = w.heap[k]?) (hsz : w'.heap.size = w.heap.size) (hm : Mem w w')
    (ho : sz = o'.sz) (hs : cur'.size = c * sz) (hl : o'.body.len ≤ c) (he : o'.exact = true → c = o'.body.len) (hfr : fr = (0, 0) ∨ (o'.fz = true ∧ c * sz ≤ fr.1))
    (hcells : ∀ i, i < o'.body.len → ∀ j, j < sz → ∃ a v, o'.body.cell? i j = some a ∧ cur'[i * sz + j]? = some v ∧ Rep E w a v) :
    Sat E nx (upd H id (some o')) w' ∧ Ext E H w N E (upd H id (some o')) w' := by
  have hI : ¬ E.I b := s.notI ⟨id, o, c, sz, hid, hf⟩
  have m : More E w E w' := ⟨fun _ _ h => h, fun _ h => h, fun b' hb' => hk b' (fun e => hI (e ▸ hb'))⟩
  have hcm : c ≤ maxLen := by
    obtain ⟨p, hp, r⟩ := s.rows _ _ hid
    rw [hf] at hp; cases hp
    exact r.2.2.2.1
  refine ⟨⟨fun k x h => ?_, fun k k' x x' b1 c1 z1 c2 z2 h h' hf1 hf2 => ?_, s.fresh, fun b' hb' => by rw [hsz]; exact s.imm b' hb'⟩, ?_⟩
  · by_cases hkk : k = id
    · subst hkk
      rw [upd_same] at h
      cases h
      refine ⟨_, hf, ho, hI, hl, hcm, he, cur', fr, hb, hs, hfr, fun i hi j hj => ?_⟩
      obtain ⟨a, v, e1, e2, r⟩ := hcells i hi j hj
      exact ⟨a, v, e1, e2, r.more m⟩
    · rw [upd_other _ _ hkk] at h
      obtain ⟨p, hp, r⟩ := s.rows _ _ h
      refine ⟨p, hp, ?_⟩
      cases p with
      | nil => exact r
      | at_ b1 c1 z1 => exact r.more m r.2.1 (hk b1 (fun e => by subst e; exact hkk (s.inj _ _ _ _ _ _ _ _ _ h hid hp hf)))
  · have key : ∀ k y, upd H id (some o') k = some y → ∃ y', H k = some y' := fun k y hy => by
      by_cases e : k = id
      · exact ⟨o, by rw [e]; exact hid⟩
      · rw [upd_other _ _ e] at hy; exact ⟨y, hy⟩
    obtain ⟨y, hy⟩ := key _ _ h
    obtain ⟨y', hy'⟩ := key _ _ h'
    exact s.inj _ _ _ _ _ _ _ _ _ hy hy' hf1 hf2
  · refine ⟨fun _ _ h => h, fun _ _ h => .inl h, fun _ h => h, fun _ h => .inl h, fun b' _ hn => hk b' (fun e => hn (e ▸ ⟨id, o, c, sz, hid, hf⟩)), ?_, by omega, hm.os, hm.tape, hm.output⟩
    rintro b' ⟨k, x, c1, z1, h, hf1⟩
    by_cases e : k = id
    · subst e
      exact .inl ⟨k, o, c1, z1, hid, hf1⟩
    · rw [upd_other _ _ e] at h
      exact .inl ⟨k, x, c1, z1, h, hf1⟩

/-- an object goes on under a new number -/
theorem sat_rename (s : Sat E nx H w) {id rid nx' : Nat} {o : AObj} (hid : H id = some o) {p : Place} (hf : E.f id = some p) (hr : E.f rid = none) (hnx : nx ≤ nx') (hrid : rid < nx') :
    Sat (E.put rid p) nx' (upd (upd H id none) rid (some o)) w ∧ Ext E H w (fun k => k = rid) (E.put rid p) (upd (upd H id none) rid (some o)) w := by
  have hne : rid ≠ id := fun e => by rw [e, hf] at hr; cases hr
  have m : More E w (E.put rid p) w := ⟨Env.put_old _ hr, fun _ h => h, fun _ _ => rfl⟩
  have key : ∀ k y q, upd (upd H id none) rid (some o) k = some y → (E.put rid p).f k = some q → ∃ k', H k' = some y ∧ E.f k' = some q ∧ ((k = rid ∧ k' = id) ∨ (k ≠ rid ∧ k' = k ∧ k ≠ id)) := by
    intro k y q hk hq
    by_cases e : k = rid
    · subst e
      rw [upd_same] at hk; cases hk
      rw [Env.put_same] at hq; cases hq
      exact ⟨id, hid, hf, .inl ⟨rfl, rfl⟩⟩
    · rw [upd_other _ _ e] at hk
      by_cases e2 : k = id
      · subst e2; rw [upd_same] at hk; cases hk
      · rw [upd_other _ _ e2] at hk
        rcases Env.put_inv hq with ⟨h1, _⟩ | ⟨_, h1⟩
        · exact absurd h1 e
        · exact ⟨k, hk, h1, .inr ⟨e, rfl, e2⟩⟩
  refine ⟨⟨fun k x h => ?_, fun k k' x x' b1 c1 z1 c2 z2 h h' hf1 hf2 => ?_, fun k hk => ?_, s.imm⟩, ?_⟩
  · have : ∃ q, (E.put rid p).f k = some q := by
      by_cases e : k = rid
      · exact ⟨p, by rw [e]; exact Env.put_same _ _ _⟩
      · rw [upd_other _ _ e] at h
        by_cases e2 : k = id
        · subst e2; rw [upd_same] at h; cases h
        · rw [upd_other _ _ e2] at h
          obtain ⟨q, hq, _⟩ := s.rows _ _ h
          exact ⟨q, m.f _ _ hq⟩
    obtain ⟨q, hq⟩ := this
    obtain ⟨k', h1, h2, _⟩ := key _ _ _ h hq
    obtain ⟨q', hq', r⟩ := s.rows _ _ h1
    rw [h2] at hq'; cases hq'
    refine ⟨q, hq, ?_⟩
    cases q with
    | nil => exact r
    | at_ b c z => exact r.more m r.2.1 rfl
  · obtain ⟨a, a1, a2, a3⟩ := key _ _ _ h hf1
    obtain ⟨a', b1', b2', b3'⟩ := key _ _ _ h' hf2
    have := s.inj _ _ _ _ _ _ _ _ _ a1 b1' a2 b2'
    rcases a3 with ⟨x1, x2⟩ | ⟨x1, x2, x3⟩ <;> rcases b3' with ⟨y1, y2⟩ | ⟨y1, y2, y3⟩ <;> omega
  · simp only [Env.put]
    rw [if_neg (by omega)]
    exact s.fresh k (by omega)
  · refine ⟨m.f, fun k q h => ?_, fun _ h => h, fun _ h => .inl h, fun _ _ _ => rfl, ?_, Nat.le_refl _, rfl, rfl, rfl⟩
    · rcases Env.put_inv h with ⟨e, _⟩ | ⟨_, q⟩
      · exact .inr e
      · exact .inl q
    · rintro b ⟨k, x, c1, z1, h, hf1⟩
      obtain ⟨k', h1, h2, _⟩ := key _ _ _ h hf1
      exact .inl ⟨k', x, c1, z1, h1, h2⟩

/-- an object is never written again -/
def Env.freeze (E : Env) (id : Nat) : Env := ⟨E.f, fun b => E.I b ∨ ∃ c sz, E.f id = some (.at_ b c sz)⟩

theorem sat_freeze (s : Sat E nx H w) {id : Nat} {o : AObj} (hid : H id = some o) :
    Sat (E.freeze id) nx (upd H id none) w ∧ Ext E H w N (E.freeze id) (upd H id none) w := by
  have m : More E w (E.freeze id) w := ⟨fun _ _ h => h, fun _ h => .inl h, fun _ _ => rfl⟩
  have key : ∀ k x, upd H id none k = some x → k ≠ id ∧ H k = some x := fun k x h => by
    by_cases e : k = id
    · subst e; rw [upd_same] at h; cases h
    · rw [upd_other _ _ e] at h; exact ⟨e, h⟩
  refine ⟨⟨fun k x h => ?_, fun k k' x x' b1 c1 z1 c2 z2 h h' => s.inj _ _ _ _ _ _ _ _ _ (key _ _ h).2 (key _ _ h').2, s.fresh, ?_⟩, ?_⟩
  · obtain ⟨e, h1⟩ := key _ _ h
    obtain ⟨q, hq, r⟩ := s.rows _ _ h1
    refine ⟨q, hq, ?_⟩
    cases q with
    | nil => exact r
    | at_ b c z =>
      refine r.more m ?_ rfl
      rintro (hI | ⟨c', z', h2⟩)
      · exact r.2.1 hI
      · exact e (s.inj _ _ _ _ _ _ _ _ _ h1 hid hq h2)
  · rintro b (hI | ⟨c', z', h2⟩)
    · exact s.imm b hI
    · exact s.lt hid h2
  · refine ⟨fun _ _ h => h, fun _ _ h => .inl h, fun _ h => .inl h, ?_, fun _ _ _ => rfl, ?_, Nat.le_refl _, rfl, rfl, rfl⟩
    · rintro b (hI | ⟨c', z', h2⟩)
      · exact .inl hI
      · exact .inr (.inr ⟨id, o, c', z', hid, h2⟩)
    · rintro b ⟨k, x, c1, z1, h, hf1⟩
      exact .inl ⟨k, x, c1, z1, (key _ _ h).2, hf1⟩
end
end Go.Proofs.YtfofhpkafhpicaaGreatDoor

/- An engine for walks, third part: what one operation does: operations that touch no memory. -/
namespace Go.Proofs.YtfofhpkafhpicaaGreatDoor
open Go.RowKit

/-- a computation that asks the program alone -/
def pureEval {α : Type} (P : Program) : Sem α → Option α
  | .pure a => some a
  | .program k => pureEval P (k P)
  | .mark _ k => pureEval P k
  | _ => none

theorem pureEval_run {α : Type} {P : Program} {a : α} (s : Sem α) (w : World) (h : pureEval P s = some a) : s.run P w = .ok a w := by
  induction s with
  | pure b => simp only [pureEval, Option.some.injEq] at h; subst h; rfl
  | program k ih => exact ih P h
  | mark m k ih => exact ih h
  | _ => simp [pureEval] at h

/-- what an operation leaves: a value, objects that have turned, the first free number -/
structure Eff where
  v : AV
  us : List (Nat × Option AObj)
  nx : Nat

structure Post (E : Env) (H : Heap) (w : World) (rid nx : Nat) (f : Eff) (E' : Env) (w' : World) (u : Value) : Prop where
  sat : Sat E' f.nx (applyU H f.us) w'
  rep : Rep E' w' f.v u
  ext : Ext E H w (fun id => id = rid ∨ nx ≤ id) E' (applyU H f.us) w'
  le : nx ≤ f.nx

inductive OpOk (P : Program) (o : Oper) (E : Env) (H : Heap) (a : Act) (w : World) (rid nx : Nat) (f : Eff) : Prop where
  | value (E' : Env) (w' : World) (u : Value) (h : (execOp a.eval o).run P w = .ok (.value u) w') (p : Post E H w rid nx f E' w' u)
  | skip (E' : Env) (w' : World) (h : (execOp a.eval o).run P w = .ok .skip w') (p : Post E H w rid nx f E' w' undef)
  | enter (g : FuncId) (args : Array Value) (w1 : World) (h : (execOp a.eval o).run P w = .ok (.enter g args) w1)
      (c : Calls P g args w1 fun e w' => ∃ E' u, e = .returned u ∧ Post E H w rid nx f E' w' u)

theorem OpOk.wp {P : Program} {o : Oper} {E : Env} {H : Heap} {a : Act} {w : World} {rid nx : Nat} {f : Eff} (h : OpOk P o E H a w rid nx f)
    {K : Act → World → Prop} {Q : Exit → Act → World → Prop} (hK : ∀ E' w' u, Post E H w rid nx f E' w' u → K (a.put o.dst u) w') : o.wp P a w K Q := by
  unfold Oper.wp
  cases h with
  | value E' w' u h p => rw [h]; exact hK _ _ _ p
  | skip E' w' h p => rw [h]; exact hK _ _ _ p
  | enter g args w1 h c =>
    rw [h]
    refine Calls.mono c fun e w' hh => ?_
    obtain ⟨E', u, rfl, p⟩ := hh
    exact hK _ _ _ p

/-- where an operation leaves but a value -/
theorem ok_val {P : Program} {o : Oper} {E : Env} {H : Heap} {a : Act} {w : World} {rid nx : Nat} {v : AV} {u : Value} (s : Sat E nx H w)
    (h : (execOp a.eval o).run P w = .ok (.value u) w) (r : Rep E w v u) : OpOk P o E H a w rid nx ⟨v, [], nx⟩ :=
  .value E w u h ⟨s, r, Ext.refl s, Nat.le_refl _⟩

/-! ### what the operands hold -/
def avOf (tm : Nat → AV) : Operand → AV
  | .tmp t => tm t
  | .const v => .val v
  | .global g => .val (.pointer (some ⟨g, 0, none⟩))
  | .func f => .fn (.func f) []

def valOne : AV → Option Value
  | .val v => some v
  | _ => none
def toVal : AV → Option Value
  | .val v => some v
  | .agg l => (l.mapM valOne).map fun cs => .agg cs.toArray
  | .fn f [] => some (.func f #[] #[])
  | _ => none

structure RepT (E : Env) (w : World) (tm : Nat → AV) (a : Act) : Prop where
  rep : ∀ t, Rep E w (tm t) (a.tmps.getD t undef)

section
variable {P : Program} {E : Env} {H : Heap} {w : World} {a : Act} {o : Oper} {nx rid : Nat} {tm : Nat → AV}

theorem RepT.eval (h : RepT E w tm a) (x : Operand) : Rep E w (avOf tm x) (a.eval x) := by
  cases x with
  | tmp t => exact h.rep t
  | const v => exact .val v
  | global g => exact .val _
  | func f => exact .fn rfl (fun k a v h _ => by simp at h)

theorem mapM_valOne : ∀ (l : List AV) (cs : List Value), l.mapM valOne = some cs → l = cs.map .val
  | [], cs, h => by simp at h; subst h; rfl
  | x :: l, cs, h => by
    rw [List.mapM_cons] at h
    cases hx : valOne x with
    | none => simp [hx] at h
    | some v =>
      cases hl : l.mapM valOne with
      | none => simp [hx, hl] at h
      | some vs =>
        simp [hx, hl] at h
        subst h
        have := mapM_valOne l vs hl
        subst this
        cases x <;> simp [valOne] at hx
        subst hx
        rfl

theorem Rep.val_inv {E : Env} {w : World} {v u : Value} (h : Rep E w (.val v) u) : u = v := by cases h; rfl

theorem rep_vals {E : Env} {w : World} {vs : List Value} {cs : Array Value} (hn : cs.size = (vs.map AV.val).length) (h : ∀ (k : Nat) a v, (vs.map AV.val)[k]? = some a → cs[k]? = some v → Rep E w a v) : cs = vs.toArray := by
  apply Array.ext_getElem?
  intro k
  simp only [List.length_map] at hn
  by_cases hk : k < vs.length
  · have h1 : (vs.map AV.val)[k]? = some (.val vs[k]) := by simp [hk]
    have h2 : cs[k]? = some cs[k] := by simp [hn, hk]
    have := (h k _ _ h1 h2).val_inv
    simp [hk, h2, this]
  · simp [hk]; omega

theorem toVal_rep {x : AV} {u v : Value} (h : toVal x = some v) (r : Rep E w x u) : u = v := by
  cases x with
  | val v' => cases r; simpa [toVal] using h
  | agg l =>
    simp only [toVal, Option.map_eq_some_iff] at h
    obtain ⟨cs, h1, rfl⟩ := h
    have := mapM_valOne _ _ h1
    subst this
    cases r with
    | agg hn hr => rw [rep_vals hn hr]
  | fn f l =>
    cases l with
    | nil =>
      simp only [toVal, Option.some.injEq] at h
      subst h
      cases r with
      | fn hn hr =>
        congr 1
        exact Array.eq_empty_of_size_eq_zero (by simpa using hn)
    | cons => simp [toVal] at h
  | _ => simp [toVal] at h

/-- the exact values of all operands, where they are exact -/
def vals (tm : Nat → AV) (o : Oper) : Bool := o.op.operands.toList.all fun x => (toVal (avOf tm x)).isSome
def valAt (tm : Nat → AV) (x : Operand) : Value := (toVal (avOf tm x)).getD undef

def noSelect : Op → Bool
  | .select _ _ => false
  | _ => true

/-- an operation on exact values that asks the program alone -/
def pureOp (P : Program) (tm : Nat → AV) (o : Oper) : Option Value :=
  if vals tm o && noSelect o.op then
    match pureEval P (execOp (valAt tm) o) with
    | some (.value v) => some v
    | _ => none
  else none

theorem ok_pure {v : Value} (s : Sat E nx H w) (r : RepT E w tm a) (h : pureOp P tm o = some v) : OpOk P o E H a w rid nx ⟨.val v, [], nx⟩ := by
  unfold pureOp at h
  split at h
  · rename_i hc
    simp only [Bool.and_eq_true] at hc
    obtain ⟨hv, hs⟩ := hc
    split at h
    · rename_i v' he
      injection h with h
      subst h
      refine ok_val s ?_ (.val _)
      have : execOp a.eval o = execOp (valAt tm) o := by
        refine execOp_congr o (fun cs b e => by rw [e] at hs; cases hs) fun x hx => ?_
        unfold vals at hv
        rw [List.all_eq_true] at hv
        have h1 := hv x (by simpa using hx)
        obtain ⟨y, hy⟩ := Option.isSome_iff_exists.1 h1
        rw [toVal_rep hy (r.eval x)]
        simp [valAt, hy]
      rw [this]
      exact pureEval_run _ _ he
    · cases h
  · cases h

theorem ok_move {x : Operand} (s : Sat E nx H w) (r : RepT E w tm a) (h : o.op = .move x ∨ o.op = .assign x) : OpOk P o E H a w rid nx ⟨avOf tm x, [], nx⟩ := by
  refine ok_val (u := a.eval x) s ?_ (r.eval x)
  rcases h with h | h <;> simp [execOp, h]

theorem ok_extract {x : Operand} {i : Nat} {l : List AV} {v : AV} (s : Sat E nx H w) (r : RepT E w tm a) (h : o.op = .extract x i) (hx : avOf tm x = .tup l) (hi : l[i]? = some v) : OpOk P o E H a w rid nx ⟨v, [], nx⟩ := by
  have rx := r.eval x
  rw [hx] at rx
  cases hv : a.eval x <;> rw [hv] at rx <;> cases rx
  rename_i cs hn hr
  have hlt : i < cs.size := by rw [hn]; exact (List.getElem?_eq_some_iff.1 hi).1
  refine ok_val (u := cs[i]) s ?_ (hr i _ _ hi (by simp [hlt]))
  simp [execOp, h, hv, Instr.extract, hlt]

/-- a type's size in cells; whether it is a struct or an array -/
def szT (P : Program) (t : TypeId) : Option Nat := (P.info? t).map (·.size)
def aggT (P : Program) (t : TypeId) : Option Bool := (P.underlying t).map fun d => match d with | .struct _ | .array _ _ => true | _ => false
def fieldT (P : Program) (t : TypeId) (f : Nat) : Option (Nat × TypeId) :=
  match P.underlying t with
  | some (.struct fs) => (fs[f]?).map fun x => (x.offset, x.type)
  | _ => none
def elemT (P : Program) (t : TypeId) : Option TypeId :=
  match P.underlying t with
  | some (.slice e) => some e
  | _ => none
def arrT (P : Program) (t : TypeId) : Option (Nat × TypeId) :=
  match P.underlying t with
  | some (.array n e) => some (n, e)
  | _ => none

theorem run_info {P : Program} {t : TypeId} {i : TypeInfo} (h : P.info? t = some i) (w : World) : (typeInfo t).run P w = .ok i w := by
  simp [typeInfo, h, Sem.run, program]
theorem szT_run {P : Program} {t : TypeId} {n : Nat} (h : szT P t = some n) (w : World) : (sizeOf t).run P w = .ok n w := by
  unfold szT at h
  obtain ⟨i, hi, rfl⟩ := Option.map_eq_some_iff.1 h
  simp [sizeOf, run_info hi]
theorem aggT_run {P : Program} {t : TypeId} {b : Bool} (h : aggT P t = some b) (w : World) : (isAgg t).run P w = .ok b w := by
  unfold aggT at h
  obtain ⟨d, hd, rfl⟩ := Option.map_eq_some_iff.1 h
  simp only [isAgg, Sem.run_bind, run_underlying hd, Result.andThen_ok]
  cases d <;> simp
theorem elemT_run {P : Program} {t e : TypeId} (h : elemT P t = some e) (w : World) : (underlying t).run P w = .ok (.slice e) w := by
  unfold elemT at h
  split at h
  · rename_i e' he
    injection h with h
    subst h
    exact run_underlying he w
  · cases h
theorem arrT_run {P : Program} {t e : TypeId} {n : Nat} (h : arrT P t = some (n, e)) (w : World) : (underlying t).run P w = .ok (.array n e) w := by
  unfold arrT at h
  split at h
  · rename_i n' e' he
    simp only [Option.some.injEq, Prod.mk.injEq] at h
    obtain ⟨rfl, rfl⟩ := h
    exact run_underlying he w
  · cases h

/-- a part of a struct's cells -/
def partA (P : Program) (t : TypeId) (l : List AV) (off : Nat) : Option AV :=
  match aggT P t, szT P t with
  | some true, some n => if off + n ≤ l.length then some (.agg ((l.drop off).take n)) else none
  | some false, _ => l[off]?
  | _, _ => none

theorem rep_sub {l : List AV} {cs : Array Value} (hn : cs.size = l.length) (hr : ∀ (k : Nat) a v, l[k]? = some a → cs[k]? = some v → Rep E w a v) {off n : Nat} (hl : off + n ≤ l.length) :
    Rep E w (.agg ((l.drop off).take n)) (.agg (cs.extract off (off + n))) := by
  refine .agg (by simp; omega) fun k a v h1 h2 => ?_
  rw [List.getElem?_take] at h1
  split at h1
  · rw [List.getElem?_drop] at h1
    rw [Array.getElem?_extract] at h2
    split at h2
    · exact hr _ _ _ h1 h2
    · cases h2
  · cases h1

theorem part_run {t : TypeId} {l : List AV} {off : Nat} {v : AV} {cs : Array Value} (h : partA P t l off = some v) (hn : cs.size = l.length) (hr : ∀ (k : Nat) a v, l[k]? = some a → cs[k]? = some v → Rep E w a v) :
    ∃ u, (part t cs off).run P w = .ok u w ∧ Rep E w v u := by
  unfold partA at h
  split at h
  · rename_i n h1 h2
    split at h
    · injection h with h
      subst h
      exact ⟨.agg (cs.extract off (off + n)), by simp [part, aggT_run h1, szT_run h2], rep_sub hn hr (by assumption)⟩
    · cases h
  · rename_i h1
    have hlt : off < cs.size := by rw [hn]; exact (List.getElem?_eq_some_iff.1 h).1
    exact ⟨cs[off], by simp [part, aggT_run h1, hlt], hr off _ _ h (by simp [hlt])⟩
  · cases h

/-- the cells of a struct -/
def aggCells : AV → Option (List AV)
  | .agg l => some l
  | .val (.agg cs) => some (cs.toList.map .val)
  | _ => none

theorem aggCells_rep {x : AV} {u : Value} {l : List AV} (h : aggCells x = some l) (r : Rep E w x u) :
    ∃ cs : Array Value, u = .agg cs ∧ cs.size = l.length ∧ ∀ (k : Nat) a v, l[k]? = some a → cs[k]? = some v → Rep E w a v := by
  cases x with
  | agg l' =>
    simp only [aggCells, Option.some.injEq] at h
    subst h
    cases r with
    | agg hn hr => exact ⟨_, rfl, hn, hr⟩
  | val v =>
    have := r.val_inv
    subst this
    cases u <;> simp [aggCells] at h
    rename_i cs
    subst h
    refine ⟨cs, rfl, by simp, fun k a v h1 h2 => ?_⟩
    simp only [List.getElem?_map, Option.map_eq_some_iff, Array.getElem?_toList] at h1
    obtain ⟨y, hy, rfl⟩ := h1
    rw [hy] at h2
    injection h2 with h2
    subst h2
    exact .val _
  | _ => simp [aggCells] at h

theorem ok_field {x : Operand} {t : TypeId} {f off : Nat} {ft : TypeId} {l : List AV} {v : AV} (s : Sat E nx H w) (r : RepT E w tm a) (h : o.op = .field t x f) (hx : aggCells (avOf tm x) = some l)
    (hf : fieldT P t f = some (off, ft)) (hp : partA P ft l off = some v) : OpOk P o E H a w rid nx ⟨v, [], nx⟩ := by
  obtain ⟨cs, hu, hn, hr⟩ := aggCells_rep hx (r.eval x)
  obtain ⟨u, h1, h2⟩ := part_run hp hn hr
  refine ok_val (u := u) s ?_ h2
  unfold fieldT at hf
  split at hf
  · rename_i fs hfs
    simp only [Option.map_eq_some_iff, Prod.mk.injEq] at hf
    obtain ⟨y, hy, rfl, rfl⟩ := hf
    simp [execOp, h, hu, Instr.field, run_underlying hfs, hy, asAgg, h1]
  · cases hf

theorem ok_index {x ix : Operand} {t : TypeId} {e : TypeId} {n es : Nat} {k : IntKind} {z : Int} {l : List AV} {v : AV} (s : Sat E nx H w) (r : RepT E w tm a) (h : o.op = .index t x ix) (hx : aggCells (avOf tm x) = some l)
    (hi : avOf tm ix = .val (.int k z)) (hz : 0 ≤ z ∧ z < (n : Int)) (ht : arrT P t = some (n, e)) (he : szT P e = some es) (hp : partA P e l (z.toNat * es) = some v) : OpOk P o E H a w rid nx ⟨v, [], nx⟩ := by
  obtain ⟨cs, hu, hn, hr⟩ := aggCells_rep hx (r.eval x)
  obtain ⟨u, h1, h2⟩ := part_run hp hn hr
  have ri := r.eval ix
  rw [hi] at ri
  have hiv : a.eval ix = .int k z := by cases hv : a.eval ix <;> rw [hv] at ri <;> cases ri <;> rfl
  refine ok_val (u := u) s ?_ h2
  simp [execOp, h, hu, hiv, Instr.index, arrT_run ht, asIntOf, szT_run he, h1, hz]
end
end Go.Proofs.YtfofhpkafhpicaaGreatDoor

/- An engine for walks, fourth part: operations on memory: new variables, loads, stores, addresses, slices. -/
namespace Go.Proofs.YtfofhpkafhpicaaGreatDoor
open Go.RowKit

theorem flat_inj {sz i j i' j' : Nat} (h : j < sz) (h' : j' < sz) (e : i * sz + j = i' * sz + j') : i = i' ∧ j = j' := by
  rcases Nat.lt_trichotomy i i' with hl | hl | hl
  · have : (i + 1) * sz ≤ i' * sz := Nat.mul_le_mul_right _ hl
    rw [Nat.add_mul] at this
    omega
  · subst hl; omega
  · have : (i' + 1) * sz ≤ i * sz := Nat.mul_le_mul_right _ hl
    rw [Nat.add_mul] at this
    omega

theorem flat_lt {sz i j c : Nat} (h : j < sz) (hi : i < c) : i * sz + j < c * sz := by
  have : (i + 1) * sz ≤ c * sz := Nat.mul_le_mul_right _ hi
  rw [Nat.add_mul] at this
  omega

/-- cells written one behind the other -/
theorem setCells_spec (b : Nat) (t : TypeId) (fr : Nat × Nat) : ∀ (vs : List Value) (o : Nat) (cur : Array Value) (w : World), w.heap[b]? = some (.cells cur t fr) →
    ∃ cur', (w.setCells b o vs).heap[b]? = some (.cells cur' t fr) ∧ cur'.size = cur.size ∧ (∀ k, cur'[k]? = if o ≤ k ∧ k < o + vs.length ∧ k < cur.size then vs[k - o]? else cur[k]?) ∧
      (∀ k, k ≠ b → (w.setCells b o vs).heap[k]? = w.heap[k]?) ∧ (w.setCells b o vs).heap.size = w.heap.size ∧ Mem w (w.setCells b o vs)
  | [], o, cur, w, h => ⟨cur, h, rfl, fun k => by rw [if_neg (by simp; omega)], fun _ _ => rfl, rfl, rfl, rfl, rfl⟩
  | v :: r, o, cur, w, h => by
    have h1 : (w.setCell ⟨b, o, none⟩ v).heap[b]? = some (.cells (cur.setIfInBounds o v) t fr) := by
      simp [World.setCell, Array.getElem?_modify, h]
    obtain ⟨cur', e1, e2, e3, e4, e5, m⟩ := setCells_spec b t fr r (o + 1) _ _ h1
    refine ⟨cur', e1, by rw [e2]; simp, fun k => ?_, fun k hk => ?_, by rw [World.setCells, e5]; simp [World.setCell], m.os, m.tape, m.output⟩
    · rw [e3, Array.size_setIfInBounds]
      by_cases hk : k = o
      · subst hk
        rw [if_neg (by omega)]
        by_cases hs : k < cur.size
        · rw [if_pos ⟨by omega, by simp, hs⟩]
          simp [hs]
        · rw [if_neg (by omega), Array.getElem?_eq_none (by simp; omega), Array.getElem?_eq_none (by omega)]
      · by_cases hc : o + 1 ≤ k ∧ k < o + 1 + r.length ∧ k < cur.size
        · rw [if_pos hc, if_pos ⟨by omega, by simp; omega, hc.2.2⟩]
          rw [show k - o = (k - (o + 1)) + 1 by omega, List.getElem?_cons_succ]
        · rw [if_neg hc, if_neg (by simp; omega), Array.getElem?_setIfInBounds_ne (by omega)]
    · rw [World.setCells, e4 k hk]
      exact Below.heap_setCell _ _ _ _ hk

section
variable {P : Program} {E : Env} {H : Heap} {w : World} {a : Act} {o : Oper} {nx rid : Nat} {tm : Nat → AV}

theorem ORep.read {ob : AObj} {b c sz : Nat} (r : ORep E w ob (.at_ b c sz)) {i j : Nat} (hi : i < ob.body.len) (hj : j < sz) :
    ∃ a v, ob.body.cell? i j = some a ∧ w.cell? ⟨b, i * sz + j, none⟩ = some v ∧ Rep E w a v := by
  obtain ⟨_, _, _, _, _, cur, fr, hg, hs, hf, hc⟩ := r
  obtain ⟨a, v, h1, h2, h3⟩ := hc i hi j hj
  exact ⟨a, v, h1, by simp [World.cell?, hg, h2], h3⟩

theorem ORep.writable {ob : AObj} {b c sz : Nat} (r : ORep E w ob (.at_ b c sz)) {k : Nat} (hk : k < c * sz) : (w.cell? ⟨b, k, none⟩).isSome = true ∧ w.frozen? ⟨b, k, none⟩ = false := by
  obtain ⟨_, _, _, _, _, cur, fr, hg, hs, hf, hc⟩ := r
  refine ⟨by simp [World.cell?, hg, hs, hk], ?_⟩
  unfold World.frozen?
  rw [hg]
  rcases hf with rfl | ⟨_, hf⟩
  · simp
  · simp; omega

theorem Sat.at_ (s : Sat E nx H w) {id : Nat} {ob : AObj} (h : H id = some ob) {b c sz : Nat} (hf : E.f id = some (.at_ b c sz)) : ORep E w ob (.at_ b c sz) := by
  obtain ⟨p, hp, r⟩ := s.rows _ _ h
  rw [hf] at hp; cases hp
  exact r

theorem eval_val {x : Operand} {v : Value} (r : RepT E w tm a) (h : avOf tm x = .val v) : a.eval x = v := by
  have := r.eval x
  rw [h] at this
  exact this.val_inv

theorem eval_ptr {x : Operand} {id i j : Nat} (r : RepT E w tm a) (h : avOf tm x = .ptr id i j) : ∃ b c sz, E.f id = some (.at_ b c sz) ∧ a.eval x = .pointer (some ⟨b, i * sz + j, none⟩) := by
  have := r.eval x
  rw [h] at this
  generalize a.eval x = u at this
  cases this with
  | ptr h => exact ⟨_, _, _, h, rfl⟩

theorem eval_iptr {x : Operand} {l : List AV} (r : RepT E w tm a) (h : avOf tm x = .iptr l) : ∃ g o, a.eval x = .pointer (some ⟨g, o, none⟩) ∧ E.I g ∧ ∀ (k : Nat) b, l[k]? = some b → ∃ v, w.cell? ⟨g, o + k, none⟩ = some v ∧ Rep E w b v := by
  have := r.eval x
  rw [h] at this
  generalize a.eval x = u at this
  cases this with
  | iptr vs hI hn hc hr =>
    refine ⟨_, _, rfl, hI, fun k b hb => ?_⟩
    have hk : k < vs.length := by rw [hn]; exact (List.getElem?_eq_some_iff.1 hb).1
    have hv : vs[k]? = some vs[k] := List.getElem?_eq_getElem hk
    exact ⟨_, hc _ _ hv, hr _ _ _ hb hv⟩

/-! ### a new variable -/
def zeroT (P : Program) (t : TypeId) : Option (List Value) := ((P.info? t).bind (·.zero)).map fun v => v.cells.toList

theorem zeroT_run {t : TypeId} {l : List Value} (h : zeroT P t = some l) (w : World) : ∃ v, (zeroValue t).run P w = .ok v w ∧ v.cells.toList = l := by
  unfold zeroT at h
  obtain ⟨v, hv, rfl⟩ := Option.map_eq_some_iff.1 h
  obtain ⟨i, hi, hz⟩ := Option.bind_eq_some_iff.1 hv
  exact ⟨v, by simp [zeroValue, run_info hi, hz], rfl⟩

/-- the cells of a value that is put into memory -/
def cellsOf : AV → Option (List AV)
  | .agg l => some l
  | .val v => some (v.cells.toList.map .val)
  | .any | .tup _ | .opt _ _ => none
  | x => some [x]

theorem cellsOf_rep {x : AV} {u : Value} {l : List AV} (h : cellsOf x = some l) (r : Rep E w x u) :
    u.cells.size = l.length ∧ ∀ (k : Nat) a v, l[k]? = some a → u.cells[k]? = some v → Rep E w a v := by
  have one : ∀ {y : AV} {u : Value}, Rep E w y u → (∀ cs, u ≠ .agg cs) → u.cells.size = [y].length ∧ ∀ (k : Nat) a v, [y][k]? = some a → u.cells[k]? = some v → Rep E w a v := by
    intro y u r hu
    have : u.cells = #[u] := by cases u <;> first | rfl | exact absurd rfl (hu _)
    rw [this]
    refine ⟨rfl, fun k a v h1 h2 => ?_⟩
    cases k with
    | zero => simp at h1 h2; subst h1 h2; exact r
    | succ k => simp at h1
  cases x with
  | agg l' =>
    simp only [cellsOf, Option.some.injEq] at h
    subst h
    cases r with
    | agg hn hr => exact ⟨hn, hr⟩
  | val v =>
    have := r.val_inv
    subst this
    simp only [cellsOf, Option.some.injEq] at h
    subst h
    refine ⟨by simp, fun k a v h1 h2 => ?_⟩
    simp only [List.getElem?_map, Option.map_eq_some_iff, Array.getElem?_toList] at h1
    obtain ⟨y, hy, rfl⟩ := h1
    rw [hy] at h2
    injection h2 with h2
    subst h2
    exact .val _
  | any => simp [cellsOf] at h
  | tup => simp [cellsOf] at h
  | opt => simp [cellsOf] at h
  | _ =>
    simp only [cellsOf, Option.some.injEq] at h
    subst h
    exact one r (fun cs e => by subst e; cases r)

/-- an object of one element -/
def objOne (t : TypeId) (l : List AV) : AObj := ⟨t, l.length, true, false, .rows [l]⟩

theorem new_one (s : Sat E nx H w) {nx' : Nat} (hr : E.f rid = none) (hnx : nx ≤ nx') (hrid : rid < nx') {t : TypeId} {cs : Array Value} {l : List AV} (hn : cs.size = l.length)
    (hrep : ∀ (k : Nat) a v, l[k]? = some a → cs[k]? = some v → Rep E w a v) (v : AV) (hv : v = .ptr rid 0 0) :
    Post E H w rid nx ⟨v, [(rid, some (objOne t l))], nx'⟩ (E.put rid (.at_ w.heap.size 1 l.length)) (w.alloc (.cells cs t)) (.pointer (some ⟨w.heap.size, 0, none⟩)) := by
  subst hv
  have h := sat_new (w' := w.alloc (.cells cs t)) (o := objOne t l) (c := 1) (fr := (0, 0)) (cur := cs) s hr hnx hrid rfl ⟨rfl, rfl, rfl⟩ (by simp [objOne, hn]) (by simp [objOne, Body.len]) (by simp [maxLen]) (by simp [objOne, Body.len]) (.inl rfl)
    (by
      intro i hi j hj
      simp only [objOne, Body.len, List.length_singleton] at hi hj
      obtain rfl : i = 0 := by omega
      have h1 : l[j]? = some l[j] := List.getElem?_eq_getElem hj
      have h2 : cs[j]? = some (cs[j]'(by omega)) := by simp [hn, hj]
      exact ⟨l[j], _, by simp [objOne, Body.cell?, h1], by simp, hrep _ _ _ h1 h2⟩)
  refine ⟨h.1, ?_, h.2.weaken fun id e => .inl e, hnx⟩
  have := Rep.ptr (E := E.put rid (.at_ w.heap.size 1 l.length)) (w := w.alloc (.cells cs t)) (i := 0) (j := 0) (Env.put_same E rid (.at_ w.heap.size 1 l.length))
  simp at this ⊢
  exact this

theorem ok_box {x : Operand} {t : TypeId} {l : List AV} {nx' : Nat} (s : Sat E nx H w) (r : RepT E w tm a) (hr : E.f rid = none) (hnx : nx ≤ nx') (hrid : rid < nx') (h : o.op = .box t x) (hx : cellsOf (avOf tm x) = some l) :
    OpOk P o E H a w rid nx ⟨.ptr rid 0 0, [(rid, some (objOne t l))], nx'⟩ := by
  obtain ⟨hn, hrep⟩ := cellsOf_rep hx (r.eval x)
  refine .value _ _ _ ?_ (new_one (t := t) s hr hnx hrid hn hrep _ rfl)
  simp [execOp, h, Instr.box, newVar, newRow]

theorem ok_alloc {t : TypeId} {z : List Value} {nx' : Nat} (s : Sat E nx H w) (hr : E.f rid = none) (hnx : nx ≤ nx') (hrid : rid < nx') (h : o.op = .alloc t) (hz : zeroT P t = some z) :
    OpOk P o E H a w rid nx ⟨.ptr rid 0 0, [(rid, some (objOne t (z.map .val)))], nx'⟩ := by
  obtain ⟨v, h1, h2⟩ := zeroT_run hz w
  refine .value _ _ _ ?_ (new_one (t := t) (cs := v.cells) s hr hnx hrid (by rw [← h2]; simp) (fun k a u e1 e2 => ?_) _ rfl)
  · simp [execOp, h, Instr.alloc, h1, newVar, newRow]
  · rw [← h2] at e1
    simp only [List.getElem?_map, Option.map_eq_some_iff, Array.getElem?_toList] at e1
    obtain ⟨y, hy, rfl⟩ := e1
    rw [hy] at e2
    injection e2 with e2
    subst e2
    exact .val _

/-! ### loads -/
theorem add_spot (g o i : Nat) : (⟨g, o, none⟩ : Addr).add i = ⟨g, o + i, none⟩ := add_zero_spot g o i

theorem load_agg {t : TypeId} {n g o' : Nat} {l : List AV} (ha : aggT P t = some true) (hs : szT P t = some n) (hl : l.length = n)
    (h : ∀ (k : Nat) b, l[k]? = some b → ∃ v, w.cell? ⟨g, o' + k, none⟩ = some v ∧ Rep E w b v) : ∃ u, (loadVar t ⟨g, o', none⟩).run P w = .ok u w ∧ Rep E w (.agg l) u := by
  have hrun := run_loadCells (P := P) w ⟨g, o', none⟩ n (fun k => (w.cell? ⟨g, o' + k, none⟩).getD undef) (fun j hj => by
    obtain ⟨v, hv, _⟩ := h j l[j] (List.getElem?_eq_getElem (by omega))
    rw [add_spot, hv]; rfl)
  refine ⟨.agg ((List.range n).map fun k => (w.cell? ⟨g, o' + k, none⟩).getD undef).toArray, by simp [loadVar, aggT_run ha, szT_run hs, hrun], .agg (by simp [hl]) fun k b v h1 h2 => ?_⟩
  obtain ⟨u, hu, hr⟩ := h k b h1
  have hk : k < n := by rw [← hl]; exact (List.getElem?_eq_some_iff.1 h1).1
  simp [hk, hu] at h2
  subst h2
  exact hr

theorem load_one {t : TypeId} {g o' : Nat} {b : AV} {v : Value} (ha : aggT P t = some false) (h : w.cell? ⟨g, o', none⟩ = some v) (_ : Rep E w b v) : (loadVar t ⟨g, o', none⟩).run P w = .ok v w := by
  simp [loadVar, aggT_run ha, h]

/-- what is loaded out of a row of cells -/
def loadA (P : Program) (t : TypeId) (e : List AV) (j : Nat) : Option AV := partA P t e j

theorem load_part {t : TypeId} {g o' j : Nat} {e : List AV} {v : AV} (hp : partA P t e j = some v)
    (h : ∀ (k : Nat) b, e[k]? = some b → ∃ u, w.cell? ⟨g, o' + k, none⟩ = some u ∧ Rep E w b u) : ∃ u, (loadVar t ⟨g, o' + j, none⟩).run P w = .ok u w ∧ Rep E w v u := by
  unfold partA at hp
  split at hp
  · rename_i n h1 h2
    split at hp
    · injection hp with hp
      subst hp
      refine load_agg h1 h2 (by simp; omega) fun k b hb => ?_
      rw [List.getElem?_take] at hb
      split at hb
      · rw [List.getElem?_drop] at hb
        obtain ⟨u, hu, hr⟩ := h _ _ hb
        exact ⟨u, by rw [Nat.add_assoc]; exact hu, hr⟩
      · cases hb
    · cases hp
  · rename_i h1
    obtain ⟨u, hu, hr⟩ := h _ _ hp
    exact ⟨u, load_one h1 hu hr, hr⟩
  · cases hp

theorem ok_load {x : Operand} {t : TypeId} {id i j : Nat} {ob : AObj} {l : List (List AV)} {e : List AV} {v : AV} (s : Sat E nx H w) (r : RepT E w tm a) (h : o.op = .load t x) (hx : avOf tm x = .ptr id i j)
    (hid : H id = some ob) (hb : ob.body = .rows l) (hi : l[i]? = some e) (he : e.length ≤ ob.sz) (hp : partA P t e j = some v) : OpOk P o E H a w rid nx ⟨v, [], nx⟩ := by
  obtain ⟨b, c, sz, hf, hu⟩ := eval_ptr r hx
  have ro := s.at_ hid hf
  have hsz : sz = ob.sz := ro.1
  have hil : i < ob.body.len := by rw [hb]; exact (List.getElem?_eq_some_iff.1 hi).1
  obtain ⟨u, h1, h2⟩ := load_part (w := w) (E := E) (g := b) (o' := i * sz) hp (fun k y hy => by
    have hk : k < e.length := (List.getElem?_eq_some_iff.1 hy).1
    obtain ⟨a', v', e1, e2, e3⟩ := ro.read hil (j := k) (by omega)
    rw [hb] at e1
    simp only [Body.cell?, hi, Option.bind_some] at e1
    rw [hy] at e1
    injection e1 with e1
    subst e1
    exact ⟨v', e2, e3⟩)
  exact ok_val s (by simp [execOp, h, hu, Instr.loadAt, Instr.sureAddr, h1]) h2

theorem ok_loadB {x : Operand} {t : TypeId} {id i : Nat} {ob : AObj} {xs : List UInt8} {y : UInt8} (s : Sat E nx H w) (r : RepT E w tm a) (h : o.op = .load t x) (hx : avOf tm x = .ptr id i 0)
    (hid : H id = some ob) (hb : ob.body = .bytes xs) (h1 : ob.sz = 1) (hi : xs[i]? = some y) (ha : aggT P t = some false) : OpOk P o E H a w rid nx ⟨.val (bv y), [], nx⟩ := by
  obtain ⟨b, c, sz, hf, hu⟩ := eval_ptr r hx
  have ro := s.at_ hid hf
  have hsz : sz = ob.sz := ro.1
  obtain ⟨a', v', e1, e2, e3⟩ := ro.read (i := i) (j := 0) (by rw [hb]; exact (List.getElem?_eq_some_iff.1 hi).1) (by omega)
  rw [hb] at e1
  simp only [Body.cell?, hi, if_true, Option.map_some, Option.some.injEq] at e1
  subst e1
  have := e3.val_inv
  subst this
  have hl := load_one ha e2 e3
  simp only [Nat.add_zero] at hl
  exact ok_val s (by simp [execOp, h, hu, Instr.loadAt, Instr.sureAddr, hl]) e3

theorem ok_loadI {x : Operand} {t : TypeId} {e : List AV} {v : AV} (s : Sat E nx H w) (r : RepT E w tm a) (h : o.op = .load t x) (hx : avOf tm x = .iptr e) (hp : partA P t e 0 = some v) : OpOk P o E H a w rid nx ⟨v, [], nx⟩ := by
  obtain ⟨g, o', hu, hI, hc⟩ := eval_iptr r hx
  obtain ⟨u, h1, h2⟩ := load_part hp hc
  simp only [Nat.add_zero] at h1
  exact ok_val s (by simp [execOp, h, hu, Instr.loadAt, Instr.sureAddr, h1]) h2

/-! ### stores -/
def splice (e : List AV) (j : Nat) (l : List AV) : List AV := e.take j ++ l ++ e.drop (j + l.length)

theorem splice_get (e : List AV) (j : Nat) (l : List AV) (h : j + l.length ≤ e.length) (k : Nat) : (splice e j l)[k]? = if j ≤ k ∧ k < j + l.length then l[k - j]? else e[k]? := by
  unfold splice
  have hlen : (e.take j).length = j := by simp; omega
  by_cases h1 : k < j
  · rw [if_neg (by omega), List.append_assoc, List.getElem?_append_left (by omega), List.getElem?_take, if_pos h1]
  · by_cases h2 : k < j + l.length
    · rw [if_pos (by omega), List.append_assoc, List.getElem?_append_right (by omega), hlen, List.getElem?_append_left (by omega)]
    · rw [if_neg (by omega), List.getElem?_append_right (by simp; omega), List.getElem?_drop]
      congr 1
      simp
      omega

theorem splice_len (e : List AV) (j : Nat) (l : List AV) (h : j + l.length ≤ e.length) : (splice e j l).length = e.length := by
  simp [splice]; omega

theorem store_run {t : TypeId} {u : Value} {n b k0 : Nat} (hs : szT P t = some n) (hn : u.cells.size = n) (h1 : ∀ v ∈ u.cells.toList, v.oneCell' = true)
    (hc : ∀ j, j < n → (w.cell? ⟨b, k0 + j, none⟩).isSome = true ∧ w.frozen? ⟨b, k0 + j, none⟩ = false) :
    (storeVar t ⟨b, k0, none⟩ u).run P w = .ok () (w.setCells b k0 u.cells.toList) := by
  have := run_storeCells_cells (P := P) b k0 u.cells.toList 0 w (fun j hj => (hc j (by simpa [hn] using hj)).1) (fun j hj => (hc j (by simpa [hn] using hj)).2) h1
  simp [storeVar, szT_run hs, hn, this]

theorem ok_store {x y : Operand} {t : TypeId} {id i j n : Nat} {ob : AObj} {l : List (List AV)} {e cs : List AV} (s : Sat E nx H w) (r : RepT E w tm a) (h : o.op = .store t x y) (hx : avOf tm x = .ptr id i j)
    (hid : H id = some ob) (hb : ob.body = .rows l) (hi : l[i]? = some e) (he : e.length = ob.sz) (hy : cellsOf (avOf tm y) = some cs) (ho : cs.all AV.one = true) (hs : szT P t = some n) (hn : cs.length = n) (hj : j + n ≤ ob.sz) :
    OpOk P o E H a w rid nx ⟨.val undef, [(id, some { ob with body := .rows (l.set i (splice e j cs)) })], nx⟩ := by
  obtain ⟨b, c, sz, hf, hu⟩ := eval_ptr r hx
  have ro := s.at_ hid hf
  obtain ⟨hn', hrep⟩ := cellsOf_rep hy (r.eval y)
  have hsz : sz = ob.sz := ro.1
  have hil : i < l.length := (List.getElem?_eq_some_iff.1 hi).1
  have hic : i < c := Nat.lt_of_lt_of_le (by rw [hb]; exact hil) ro.2.2.1
  have h1 : ∀ v ∈ (a.eval y).cells.toList, v.oneCell' = true := by
    intro v hv
    obtain ⟨k, hk, rfl⟩ := List.getElem_of_mem hv
    have hk' : k < cs.length := by simpa [hn'] using hk
    have e1 : cs[k]? = some cs[k] := List.getElem?_eq_getElem hk'
    refine (hrep k _ _ e1 (by simp at hk; simp [hk])).one ?_
    rw [List.all_eq_true] at ho
    exact ho _ (List.mem_of_getElem? e1)
  have hrun := store_run (P := P) (w := w) (t := t) (u := a.eval y) (b := b) (k0 := i * sz + j) hs (by omega) h1 (fun k hk => ro.writable (by rw [Nat.add_assoc]; exact flat_lt (by omega) hic))
  obtain ⟨_, _, hlc, _, hex, cur, fr, hg, hcs, hfr, hcell⟩ := ro
  obtain ⟨cur', g1, g2, g3, g4, g5, gm⟩ := setCells_spec b ob.t fr (a.eval y).cells.toList (i * sz + j) cur w hg
  have hset := sat_set (w' := w.setCells b (i * sz + j) (a.eval y).cells.toList) (N := fun id => id = rid ∨ nx ≤ id) (o' := { ob with body := .rows (l.set i (splice e j cs)) }) s hid hf g1 g4 g5 gm hsz (by rw [g2]; exact hcs) (by rw [hb] at hlc; simpa [Body.len] using hlc)
    (fun hh => by have := hex hh; rw [hb] at this; simpa [Body.len] using this) hfr (by
      intro i' hi' j' hj'
      simp only [Body.len, List.length_set] at hi'
      have hi'' : i' < c := Nat.lt_of_lt_of_le (by rw [hb]; exact hi') hlc
      have hcur : i' * sz + j' < cur.size := by rw [hcs]; exact flat_lt hj' hi''
      rw [g3]
      obtain ⟨a', v', e1, e2, e3⟩ := hcell i' (by rw [hb]; exact hi') j' hj'
      rw [hb] at e1
      simp only [Body.cell?] at e1
      by_cases hii : i' = i ∧ j ≤ j' ∧ j' < j + n
      · obtain ⟨rfl, hj1, hj2⟩ := hii
        have hlt : j' - j < cs.length := by omega
        have e4 : cs[j' - j]? = some cs[j' - j] := List.getElem?_eq_getElem hlt
        rw [if_pos ⟨by omega, by simp [hn']; omega, hcur⟩]
        have e5 : (a.eval y).cells[j' - j]? = some ((a.eval y).cells[j' - j]'(by omega)) := by simp
        refine ⟨cs[j' - j], (a.eval y).cells[j' - j]'(by omega), ?_, ?_, hrep _ _ _ e4 e5⟩
        · simp only [Body.cell?]
          rw [List.getElem?_set_self hil, Option.bind_some, splice_get e j cs (by omega), if_pos ⟨hj1, by omega⟩]
          exact e4
        · rw [Array.getElem?_toList, show i' * sz + j' - (i' * sz + j) = j' - j by omega]
          exact e5
      · rw [if_neg (fun hc => hii (by
          obtain ⟨c1, c2, _⟩ := hc
          simp only [Array.length_toList, hn'] at c2
          have := flat_inj (sz := sz) (i := i') (j := j') (i' := i) (j' := j + (i' * sz + j' - (i * sz + j))) hj' (by omega) (by omega)
          omega))]
        refine ⟨a', v', ?_, e2, e3⟩
        simp only [Body.cell?]
        by_cases hii2 : i' = i
        · subst hii2
          rw [List.getElem?_set_self hil, Option.bind_some, splice_get e j cs (by omega), if_neg (fun hc => hii ⟨rfl, by omega, by omega⟩)]
          rw [hi, Option.bind_some] at e1
          exact e1
        · rw [List.getElem?_set_ne (fun e => hii2 e.symm)]
          exact e1)
  exact .skip E _ (by simp [execOp, h, hu, Instr.storeAt, Instr.sureAddr, hrun]) ⟨hset.1, .val _, hset.2, Nat.le_refl _⟩

theorem ok_storeB {x y : Operand} {t : TypeId} {id i : Nat} {ob : AObj} {xs : List UInt8} {z : UInt8} (s : Sat E nx H w) (r : RepT E w tm a) (h : o.op = .store t x y) (hx : avOf tm x = .ptr id i 0)
    (hid : H id = some ob) (hb : ob.body = .bytes xs) (hsz1 : ob.sz = 1) (hi : i < xs.length) (hy : avOf tm y = .val (bv z)) (hs : szT P t = some 1) :
    OpOk P o E H a w rid nx ⟨.val undef, [(id, some { ob with body := .bytes (xs.set i z) })], nx⟩ := by
  obtain ⟨b, c, sz, hf, hu⟩ := eval_ptr r hx
  have ro := s.at_ hid hf
  have hsz : sz = ob.sz := ro.1
  have hz1 : sz = 1 := by omega
  subst hz1
  have hv := eval_val r hy
  have hic : i < c := Nat.lt_of_lt_of_le (by rw [hb]; exact hi) ro.2.2.1
  have hrun := store_run (P := P) (w := w) (t := t) (u := a.eval y) (b := b) (k0 := i * 1 + 0) hs (by rw [hv]; rfl) (by rw [hv]; simp [bv, Value.cells, Value.oneCell']) (fun k hk => ro.writable (by omega))
  obtain ⟨_, _, hlc, _, hex, cur, fr, hg, hcs, hfr, hcell⟩ := ro
  obtain ⟨cur', g1, g2, g3, g4, g5, gm⟩ := setCells_spec b ob.t fr (a.eval y).cells.toList (i * 1 + 0) cur w hg
  have hset := sat_set (w' := w.setCells b (i * 1 + 0) (a.eval y).cells.toList) (N := fun id => id = rid ∨ nx ≤ id) (o' := { ob with body := .bytes (xs.set i z) }) s hid hf g1 g4 g5 gm hsz (by rw [g2]; exact hcs) (by rw [hb] at hlc; simpa [Body.len] using hlc)
    (fun hh => by have := hex hh; rw [hb] at this; simpa [Body.len] using this) hfr (by
      intro i' hi' j' hj'
      simp only [Body.len, List.length_set] at hi'
      obtain rfl : j' = 0 := by omega
      have hi'' : i' < c := Nat.lt_of_lt_of_le (by rw [hb]; exact hi') hlc
      rw [g3]
      obtain ⟨a', v', e1, e2, e3⟩ := hcell i' (by rw [hb]; exact hi') 0 hj'
      rw [hb] at e1
      simp only [Body.cell?, if_true] at e1 ⊢
      by_cases hii : i' = i
      · subst hii
        rw [if_pos ⟨by omega, by simp [hv, bv, Value.cells], by omega⟩]
        exact ⟨.val (bv z), bv z, by simp [hi'], by simp [hv, bv, Value.cells], .val _⟩
      · rw [if_neg (by simp [hv, bv, Value.cells]; omega)]
        exact ⟨a', v', by rw [List.getElem?_set_ne (fun e => hii e.symm)]; exact e1, e2, e3⟩)
  exact .skip E _ (by simp only [Nat.add_zero, Nat.mul_one] at hrun; simp [execOp, h, hu, Instr.storeAt, Instr.sureAddr, hrun]) ⟨hset.1, .val _, hset.2, Nat.le_refl _⟩
end
end Go.Proofs.YtfofhpkafhpicaaGreatDoor

/- An engine for walks: maps that stay empty. -/
namespace Go.Proofs.YtfofhpkafhpicaaGreatDoor
open Go.RowKit
section
variable {P : Program} {E : Env} {H : Heap} {w w' : World} {a : Act} {o : Oper} {nx rid : Nat} {tm : Nat → AV}

/-- a new block that nobody ever writes -/
theorem sat_imm (s : Sat E nx H w) {ob : Obj} {N : Nat → Prop} (hh : w'.heap = w.heap.push ob) (hm : Mem w w') :
    Sat ⟨E.f, fun b => E.I b ∨ b = w.heap.size⟩ nx H w' ∧ Ext E H w N ⟨E.f, fun b => E.I b ∨ b = w.heap.size⟩ H w' := by
  have hsz : w'.heap.size = w.heap.size + 1 := by rw [hh, Array.size_push]
  have hold : ∀ k, k < w.heap.size → w'.heap[k]? = w.heap[k]? := fun k hk => by rw [hh, Array.getElem?_push, if_neg (by omega)]
  have m : More E w ⟨E.f, fun b => E.I b ∨ b = w.heap.size⟩ w' := ⟨fun _ _ h => h, fun _ h => .inl h, fun b hb => hold b (s.imm b hb)⟩
  refine ⟨⟨fun id x h => ?_, s.inj, s.fresh, fun b hb => ?_⟩, ⟨fun _ _ h => h, fun _ _ h => .inl h, fun _ h => .inl h, fun b hb => hb.imp_right fun e => .inl (Nat.le_of_eq e.symm), fun b hb _ => hold b hb, fun b hb => .inl hb, by omega, hm.os, hm.tape, hm.output⟩⟩
  · obtain ⟨p, hp, r⟩ := s.rows _ _ h
    refine ⟨p, hp, ?_⟩
    cases p with
    | nil => exact r
    | at_ b c z => exact r.more m (fun hI => hI.elim r.2.1 fun e => by have := s.lt h hp; omega) (hold b (s.lt h hp))
  · rcases hb with hb | hb
    · have := s.imm b hb; omega
    · omega

theorem ok_makeMap {t : TypeId} (s : Sat E nx H w) (h : o.op = .makeMap t none) : OpOk P o E H a w rid nx ⟨.emap, [], nx⟩ := by
  have k := sat_imm (w' := w.alloc (.map #[] 0)) (ob := .map #[] 0) (N := fun id => id = rid ∨ nx ≤ id) s rfl ⟨rfl, rfl, rfl⟩
  refine .value _ (w.alloc (.map #[] 0)) (.map (some w.heap.size)) ?_ ⟨k.1, .emap (.inr rfl) ?_, k.2, Nat.le_refl _⟩
  · simp [execOp, h, Instr.makeMap, newObj]
    rfl
  · show (w.heap.push _)[w.heap.size]? = _
    simp

def mapT (P : Program) (t : TypeId) : Option (TypeId × TypeId) :=
  match P.underlying t with
  | some (.map k e) => some (k, e)
  | _ => none
theorem mapT_run {t k e : TypeId} (h : mapT P t = some (k, e)) (w : World) : (underlying t).run P w = .ok (.map k e) w := by
  unfold mapT at h
  split at h
  · rename_i k' e' he
    simp only [Option.some.injEq, Prod.mk.injEq] at h
    obtain ⟨rfl, rfl⟩ := h
    exact run_underlying he w
  · cases h
/-- a value that is known whole -/
def valOf : AV → Option Value
  | .val v => some v
  | .agg l => if l.all (fun a => match a with | .val _ => true | _ => false) then some (.agg (l.map fun a => match a with | .val v => v | _ => undef).toArray) else none
  | _ => none
theorem valOf_ok {x : AV} {v u : Value} (h : valOf x = some v) (r : Rep E w x u) : u = v := by
  cases x <;> simp only [valOf, reduceCtorEq] at h
  · injection h with h
    rw [← h]
    exact r.val_inv
  · rename_i l
    split at h
    · rename_i hall
      injection h with h
      subst h
      cases r with
      | agg hn hr =>
        congr 1
        apply Array.ext'
        apply List.ext_getElem
        · simp [hn]
        · intro i h1 h2
          simp only [Array.length_toList] at h1
          have h3 : i < l.length := by omega
          have h4 := List.all_eq_true.1 hall _ (List.getElem_mem h3)
          have h5 := hr i l[i] _ (List.getElem?_eq_getElem h3) (Array.getElem?_eq_getElem h1)
          simp only [Array.getElem_toList, List.getElem_map]
          revert h5 h4
          generalize l[i] = q
          intro h4 h5
          cases q <;> simp at h4
          exact h5.val_inv
    · cases h
def keyB (P : Program) (k : TypeId) (v : Value) : Bool := P.keyTypeAt 8 k && v.formed P k && (P.keyLits 9 k v.cells.toList).isSome

theorem ok_lookup {t k e : TypeId} {x ix : Operand} {v z : Value} (s : Sat E nx H w) (r : RepT E w tm a) (h : o.op = .lookup t x ix false) (ht : mapT P t = some (k, e)) (hx : avOf tm x = .emap) (hix : valOf (avOf tm ix) = some v)
    (hk : keyB P k v = true) (hz : (P.info? e).bind (·.zero) = some z) : OpOk P o E H a w rid nx ⟨.val z, [], nx⟩ := by
  have rx := r.eval x
  rw [hx] at rx
  have hv := valOf_ok hix (r.eval ix)
  simp only [keyB, Bool.and_eq_true, Option.isSome_iff_exists] at hk
  obtain ⟨⟨k1, k2⟩, la, k3⟩ := hk
  have hck := run_checkKey_deep (P := P) true (10000 - 8) 8 k k1 w 9 v la k2 k3
  obtain ⟨i, hi, hz'⟩ := Option.bind_eq_some_iff.1 hz
  have hu : ∃ d, P.underlying k = some d := by
    cases hd : P.underlying k with
    | some d => exact ⟨d, rfl⟩
    | none => simp [Program.keyTypeAt, hd] at k1
  obtain ⟨d, hd⟩ := hu
  generalize hue : a.eval x = u at rx
  cases rx with
  | emap hI hm =>
    rename_i q
    refine ok_val (u := z) s ?_ (.val _)
    have hg : (getObj q).run P w = .ok (.map #[] 0) w := by simp [getObj, Sem.run, hm]
    simp only [show (10000 - 8 + 8 : Nat) = 10000 from rfl] at hck
    simp [execOp, h, Instr.lookup, mapT_run ht, hue, hv, hg, hck, Instr.findKey, Instr.findNow, run_underlying hd, zeroValue, run_info hi, hz']
end
end Go.Proofs.YtfofhpkafhpicaaGreatDoor
