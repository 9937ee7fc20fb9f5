/- An engine for walks, first part: what a value in a frame stands for, what an object in memory holds, and when a world bears them. Plain theorems over any program. -/
import Derived.Test.YtoekncmggjhmjaaKit
namespace Go.Proofs.Ytoekncmggjhmjaa
open Go.RowKit

/-- what a temporary holds: an exact value; nobody knows; a cell of an object of the walk's own; a place that is never written; slices of an object; slices that are never written; structs; functions -/
inductive AV where
  | val (v : Value)
  | any
  | ptr (id i j : Nat)
  | iptr (l : List AV)
  | sl (id off n : Nat) (lim : Option Nat)
  | csl (id i j n c : Nat)
  | bytes (xs : List UInt8)
  | view (sz n : Nat) (g : Nat → List AV)
  | agg (l : List AV)
  | tup (l : List AV)
  | fn (f : Fn) (cap : List AV)
  | opt (b : Bool) (v : AV)

inductive Place where
  | nil
  | at_ (b c sz : Nat)

/-- where the objects lie; which blocks are never written again -/
structure Env where
  f : Nat → Option Place
  I : Nat → Prop

inductive Rep (E : Env) (w : World) : AV → Value → Prop where
  | val (v : Value) : Rep E w (.val v) v
  | any (v : Value) : Rep E w .any v
  | ptr {id i j b c sz : Nat} (h : E.f id = some (.at_ b c sz)) : Rep E w (.ptr id i j) (.pointer (some ⟨b, i * sz + j, none⟩))
  | iptr {l : List AV} {g o : Nat} (vs : List Value) (hI : E.I g) (hn : vs.length = l.length) (hc : ∀ (k : Nat) v, vs[k]? = some v → w.cell? ⟨g, o + k, none⟩ = some v)
      (hr : ∀ (k : Nat) a v, l[k]? = some a → vs[k]? = some v → Rep E w a v) : Rep E w (.iptr l) (.pointer (some ⟨g, o, none⟩))
  | sl {id off n b c sz cap : Nat} {lim : Option Nat} {A : Option Addr} (h : E.f id = some (.at_ b c sz)) (hc : cap + off = lim.getD c) (hl : lim.getD c ≤ c) (hn : n ≤ cap)
      (hA : (cap = 0 ∧ off ≠ 0) ∨ A = some ⟨b, off * sz, none⟩) : Rep E w (.sl id off n lim) (.slice A n cap)
  | slnil {id : Nat} {lim : Option Nat} (h : E.f id = some .nil) (hl : lim.getD 0 = 0) : Rep E w (.sl id 0 0 lim) (.slice none 0 0)
  | csl {id i j n c b c' sz : Nat} (h : E.f id = some (.at_ b c' sz)) (hn : n ≤ c) (hm : c ≤ maxLen) : Rep E w (.csl id i j n c) (.slice (some ⟨b, i * sz + j, none⟩) n c)
  | bytes {xs : List UInt8} {A : Option Addr} {n c : Nat} (hn : xs.length = n) (hc : n ≤ c) (hm : c ≤ maxLen)
      (h : 0 < n → ∃ g o, A = some ⟨g, o, none⟩ ∧ E.I g ∧ ∀ (i : Nat) x, xs[i]? = some x → w.cell? ⟨g, o + i, none⟩ = some (bv x)) : Rep E w (.bytes xs) (.slice A n c)
  | view {sz n c b o : Nat} {g : Nat → List AV} {A : Option Addr} (cells : Nat → Nat → Value) (hc : n ≤ c) (hm : c ≤ maxLen) (hA : 0 < n → A = some ⟨b, o, none⟩ ∧ E.I b)
      (hl : ∀ i, i < n → (g i).length = sz) (hcell : ∀ i j, i < n → j < sz → w.cell? ⟨b, o + i * sz + j, none⟩ = some (cells i j))
      (hr : ∀ (i j : Nat) a, i < n → (g i)[j]? = some a → Rep E w a (cells i j)) : Rep E w (.view sz n g) (.slice A n c)
  | agg {l : List AV} {cs : Array Value} (hn : cs.size = l.length) (h : ∀ (k : Nat) a v, l[k]? = some a → cs[k]? = some v → Rep E w a v) : Rep E w (.agg l) (.agg cs)
  | tup {l : List AV} {cs : Array Value} (hn : cs.size = l.length) (h : ∀ (k : Nat) a v, l[k]? = some a → cs[k]? = some v → Rep E w a v) : Rep E w (.tup l) (.tuple cs)
  | fn {f : Fn} {l : List AV} {cs : Array Value} (hn : cs.size = l.length) (h : ∀ (k : Nat) a v, l[k]? = some a → cs[k]? = some v → Rep E w a v) : Rep E w (.fn f l) (.func f #[] cs)
  | opt {b : Bool} {a : AV} {v : Value} (h : b = true → Rep E w a v) (h' : b = false → v = .tuple #[]) : Rep E w (.opt b a) v

/-- more is known, and nothing that is never written has been -/
structure More (E : Env) (w : World) (E' : Env) (w' : World) : Prop where
  f : ∀ id p, E.f id = some p → E'.f id = some p
  I : ∀ b, E.I b → E'.I b
  mem : ∀ b, E.I b → w'.heap[b]? = w.heap[b]?

theorem Rep.more {E E' : Env} {w w' : World} (m : More E w E' w') {a : AV} {v : Value} (h : Rep E w a v) : Rep E' w' a v := by
  have hcell : ∀ g o v, E.I g → w.cell? ⟨g, o, none⟩ = some v → w'.cell? ⟨g, o, none⟩ = some v := fun g o v hI hc => by
    rw [World.cell?_of_block (w := w) (m.mem g hI)]; exact hc
  induction h with
  | val v => exact .val v
  | any v => exact .any v
  | ptr h => exact .ptr (m.f _ _ h)
  | iptr vs hI hn hc _ ih => exact .iptr vs (m.I _ hI) hn (fun k v hv => hcell _ _ _ hI (hc k v hv)) ih
  | sl h hc hl hn hA => exact .sl (m.f _ _ h) hc hl hn hA
  | slnil h hl => exact .slnil (m.f _ _ h) hl
  | csl h hn hm => exact .csl (m.f _ _ h) hn hm
  | bytes hn hc hm h =>
    refine .bytes hn hc hm fun h0 => ?_
    obtain ⟨g, o, e, hI, hx⟩ := h h0
    exact ⟨g, o, e, m.I _ hI, fun i x hi => hcell _ _ _ hI (hx i x hi)⟩
  | view cells hc hm hA hl hx _ ih => exact .view cells hc hm (fun h0 => ⟨(hA h0).1, m.I _ (hA h0).2⟩) hl (fun i j hi hj => hcell _ _ _ (hA (by omega)).2 (hx i j hi hj)) ih
  | agg hn _ ih => exact .agg hn ih
  | tup hn _ ih => exact .tup hn ih
  | fn hn _ ih => exact .fn hn ih
  | opt _ h' ih => exact .opt ih h'

theorem Rep.same {E : Env} {w w' : World} (h' : ∀ b, E.I b → w'.heap[b]? = w.heap[b]?) {a : AV} {v : Value} (h : Rep E w a v) : Rep E w' a v :=
  h.more ⟨fun _ _ h => h, fun _ h => h, h'⟩

/-- does a value of this kind fill one cell? -/
def AV.one : AV → Bool
  | .val v => v.oneCell'
  | .any | .agg _ | .tup _ | .opt _ _ => false
  | _ => true

theorem Rep.one {E : Env} {w : World} {a : AV} {v : Value} (h : Rep E w a v) (ho : a.one = true) : v.oneCell' = true := by
  cases h <;> first | exact ho | rfl | cases ho

/-! ### objects -/
inductive Body where
  | rows (l : List (List AV))
  | bytes (xs : List UInt8)
  | flat (l : List (List AV))

def Body.len : Body → Nat
  | .rows l => l.length
  | .bytes xs => xs.length
  | .flat l => l.length

/-- cell j of element i -/
def Body.cell? : Body → Nat → Nat → Option AV
  | .rows l, i, j => (l[i]?).bind (·[j]?)
  | .bytes xs, i, j => if j = 0 then (xs[i]?).map fun x => .val (bv x) else none
  | .flat l, i, j => (l[i]?).bind (·[j]?)

structure AObj where
  t : TypeId
  sz : Nat
  exact : Bool
  fz : Bool
  body : Body

abbrev Heap := Nat → Option AObj

/-- the object lies at its place -/
def ORep (E : Env) (w : World) (o : AObj) : Place → Prop
  | .nil => o.body.len = 0 ∧ o.exact = false
  | .at_ b c sz => sz = o.sz ∧ ¬ E.I b ∧ o.body.len ≤ c ∧ c ≤ maxLen ∧ (o.exact = true → c = o.body.len) ∧
    ∃ cur fr, w.heap[b]? = some (.cells cur o.t fr) ∧ cur.size = c * sz ∧ (fr = (0, 0) ∨ (o.fz = true ∧ c * sz ≤ fr.1)) ∧
      ∀ i, i < o.body.len → ∀ j, j < sz → ∃ a v, o.body.cell? i j = some a ∧ cur[i * sz + j]? = some v ∧ Rep E w a v

structure Sat (E : Env) (nx : Nat) (H : Heap) (w : World) : Prop where
  rows : ∀ id o, H id = some o → ∃ p, E.f id = some p ∧ ORep E w o p
  inj : ∀ id id' o o' b c s c' s', H id = some o → H id' = some o' → E.f id = some (.at_ b c s) → E.f id' = some (.at_ b c' s') → id = id'
  fresh : ∀ id, nx ≤ id → E.f id = none
  imm : ∀ b, E.I b → b < w.heap.size

/-- block b is one of H's objects -/
def Hb (E : Env) (H : Heap) (b : Nat) : Prop := ∃ id o c s, H id = some o ∧ E.f id = some (.at_ b c s)

structure Ext (E : Env) (H : Heap) (w : World) (N : Nat → Prop) (E' : Env) (H' : Heap) (w' : World) : Prop where
  f : ∀ id p, E.f id = some p → E'.f id = some p
  nw : ∀ id p, E'.f id = some p → E.f id = some p ∨ N id
  I : ∀ b, E.I b → E'.I b
  I' : ∀ b, E'.I b → E.I b ∨ w.heap.size ≤ b ∨ Hb E H b
  fr : ∀ b, b < w.heap.size → ¬ Hb E H b → w'.heap[b]? = w.heap[b]?
  hb : ∀ b, Hb E' H' b → Hb E H b ∨ w.heap.size ≤ b
  size : w.heap.size ≤ w'.heap.size
  os : w'.os = w.os
  tape : w'.tape = w.tape
  output : w'.output = w.output

section
variable {E E' E'' : Env} {H H' H'' : Heap} {w w' w'' : World} {N N' : Nat → Prop} {nx nx' : Nat}

theorem Sat.lt (s : Sat E nx H w) {id b c sz : Nat} {o : AObj} (h : H id = some o) (hf : E.f id = some (.at_ b c sz)) : b < w.heap.size := by
  obtain ⟨p, hp, r⟩ := s.rows _ _ h
  rw [hf] at hp
  cases hp
  obtain ⟨_, _, _, _, _, cur, fr, hg, _⟩ := r
  exact (Array.getElem?_eq_some_iff.1 hg).1

theorem Sat.hb_lt (s : Sat E nx H w) {b : Nat} (h : Hb E H b) : b < w.heap.size := by
  obtain ⟨id, o, c, sz, h1, h2⟩ := h
  exact s.lt h1 h2

theorem Sat.notI (s : Sat E nx H w) {b : Nat} (h : Hb E H b) : ¬ E.I b := by
  obtain ⟨id, o, c, sz, h1, h2⟩ := h
  obtain ⟨p, hp, r⟩ := s.rows _ _ h1
  rw [h2] at hp
  cases hp
  exact r.2.1

theorem Ext.more (s : Sat E nx H w) (x : Ext E H w N E' H' w') : More E w E' w' :=
  ⟨x.f, x.I, fun b hb => x.fr b (s.imm b hb) fun h => s.notI h hb⟩

theorem Ext.refl (_ : Sat E nx H w) : Ext E H w N E H w :=
  ⟨fun _ _ h => h, fun _ _ h => .inl h, fun _ h => h, fun _ h => .inl h, fun _ _ _ => rfl, fun _ h => .inl h, Nat.le_refl _, rfl, rfl, rfl⟩

theorem Ext.trans (x : Ext E H w N E' H' w') (y : Ext E' H' w' N' E'' H'' w'') {M : Nat → Prop} (hN : ∀ id, N id → M id) (hN' : ∀ id, N' id → M id) : Ext E H w M E'' H'' w'' := by
  refine ⟨fun id p h => y.f _ _ (x.f _ _ h), fun id p h => ?_, fun b h => y.I _ (x.I _ h), fun b h => ?_, fun b h1 h2 => ?_, fun b h => ?_, Nat.le_trans x.size y.size, y.os.trans x.os, y.tape.trans x.tape, y.output.trans x.output⟩
  · rcases y.nw _ _ h with h | h
    · rcases x.nw _ _ h with h | h
      · exact .inl h
      · exact .inr (hN _ h)
    · exact .inr (hN' _ h)
  · rcases y.I' _ h with h | h | h
    · exact x.I' _ h
    · exact .inr (.inl (Nat.le_trans x.size h))
    · rcases x.hb _ h with h | h
      · exact .inr (.inr h)
      · exact .inr (.inl h)
  · rw [y.fr b (Nat.lt_of_lt_of_le h1 x.size) (fun h => ?_), x.fr b h1 h2]
    rcases x.hb _ h with h | h
    · exact h2 h
    · omega
  · rcases y.hb _ h with h | h
    · exact x.hb _ h
    · exact .inr (Nat.le_trans x.size h)

theorem Ext.weaken (x : Ext E H w N E' H' w') (hN : ∀ id, N id → N' id) : Ext E H w N' E' H' w' :=
  ⟨x.f, fun id p h => (x.nw id p h).imp (fun h => h) (hN id), x.I, x.I', x.fr, x.hb, x.size, x.os, x.tape, x.output⟩

theorem ORep.more (m : More E w E' w') {o : AObj} {b c sz : Nat} (h : ORep E w o (.at_ b c sz)) (hI : ¬ E'.I b) (hb : w'.heap[b]? = w.heap[b]?) : ORep E' w' o (.at_ b c sz) := by
  obtain ⟨h1, _, h3, h4, h5, cur, fr, hg, hs, hf, hc⟩ := h
  refine ⟨h1, hI, h3, h4, h5, cur, fr, by rw [hb]; exact hg, hs, hf, fun i hi j hj => ?_⟩
  obtain ⟨a, v, e1, e2, r⟩ := hc i hi j hj
  exact ⟨a, v, e1, e2, r.more m⟩

/-- the frame: what else there was is there still -/
theorem Sat.frame {Hf Hf' : Heap} (s : Sat E nx H w) (hsub : ∀ id o, Hf id = some o → H id = some o) (x : Ext E Hf w N E' Hf' w') (s' : Sat E' nx' Hf' w')
    {K : Heap} (hK : ∀ id o, K id = some o → Hf' id = some o ∨ (H id = some o ∧ Hf id = none)) : Sat E' nx' K w' ∧ Ext E H w N E' K w' := by
  have m : More E w E' w' := ⟨x.f, x.I, fun b hb => x.fr b (s.imm b hb) fun ⟨id, o, c, sz, h1, h2⟩ => s.notI ⟨id, o, c, sz, hsub _ _ h1, h2⟩ hb⟩
  have old : ∀ id o b c sz, H id = some o → Hf id = none → E.f id = some (.at_ b c sz) → ¬ Hb E Hf b := by
    rintro id o b c sz h1 h2 h3 ⟨id', o', c', s', h4, h5⟩
    have := s.inj _ _ _ _ _ _ _ _ _ h1 (hsub _ _ h4) h3 h5
    subst this
    rw [h2] at h4
    cases h4
  have hEq : ∀ id o, H id = some o → ∀ p, E'.f id = some p → E.f id = some p := by
    intro id o h p hp
    obtain ⟨q, hq, _⟩ := s.rows _ _ h
    have := x.f _ _ hq
    rw [hp] at this
    cases this
    exact hq
  refine ⟨⟨fun id o h => ?_, ?_, s'.fresh, s'.imm⟩, ?_⟩
  · rcases hK _ _ h with h | ⟨h1, h2⟩
    · exact s'.rows _ _ h
    · obtain ⟨p, hp, r⟩ := s.rows _ _ h1
      refine ⟨p, x.f _ _ hp, ?_⟩
      cases p with
      | nil => exact r
      | at_ b c sz =>
        have hlt := s.lt h1 hp
        have hno := old _ _ _ _ _ h1 h2 hp
        refine r.more m (fun hI => ?_) (x.fr b hlt hno)
        rcases x.I' _ hI with h | h | h
        · exact s.notI ⟨id, o, c, sz, h1, hp⟩ h
        · omega
        · exact hno h
  · intro id id' o o' b c sz c' sz' h h' hf hf'
    rcases hK _ _ h with h | ⟨h1, h2⟩ <;> rcases hK _ _ h' with h' | ⟨h1', h2'⟩
    · exact s'.inj _ _ _ _ _ _ _ _ _ h h' hf hf'
    · exfalso
      have hp' := hEq _ _ h1' _ hf'
      rcases x.hb b ⟨_, _, _, _, h, hf⟩ with hh | hh
      · exact old _ _ _ _ _ h1' h2' hp' hh
      · have := s.lt h1' hp'; omega
    · exfalso
      have hp := hEq _ _ h1 _ hf
      rcases x.hb b ⟨_, _, _, _, h', hf'⟩ with hh | hh
      · exact old _ _ _ _ _ h1 h2 hp hh
      · have := s.lt h1 hp; omega
    · exact s.inj _ _ _ _ _ _ _ _ _ h1 h1' (hEq _ _ h1 _ hf) (hEq _ _ h1' _ hf')
  · have hbS : ∀ b, Hb E Hf b → Hb E H b := fun b ⟨id, o, c, sz, h1, h2⟩ => ⟨id, o, c, sz, hsub _ _ h1, h2⟩
    refine ⟨x.f, x.nw, x.I, fun b h => ?_, fun b h1 h2 => x.fr b h1 fun h => h2 (hbS b h), ?_, x.size, x.os, x.tape, x.output⟩
    · rcases x.I' _ h with h | h | h
      · exact .inl h
      · exact .inr (.inl h)
      · exact .inr (.inr (hbS _ h))
    · rintro b ⟨id, o, c, sz, h1, h2⟩
      rcases hK _ _ h1 with h | ⟨h3, h4⟩
      · exact (x.hb b ⟨id, o, c, sz, h, h2⟩).imp (hbS b) (fun h => h)
      · exact .inl ⟨id, o, c, sz, h3, hEq _ _ h3 _ h2⟩

/-- less may be said of a world -/
theorem Sat.sub {K : Heap} (s : Sat E nx H w) (hsub : ∀ id o, K id = some o → H id = some o) : Sat E nx K w :=
  ⟨fun id o h => s.rows id o (hsub _ _ h), fun id id' o o' b c sz c' sz' h h' => s.inj id id' o o' b c sz c' sz' (hsub _ _ h) (hsub _ _ h'), s.fresh, s.imm⟩

theorem Sat.up (s : Sat E nx H w) (h : nx ≤ nx') : Sat E nx' H w := ⟨s.rows, s.inj, fun id hid => s.fresh id (by omega), s.imm⟩

/-- a world of the same memory -/
theorem Sat.heap (s : Sat E nx H w) (hh : w'.heap = w.heap) : Sat E nx H w' := by
  have m : More E w E w' := ⟨fun _ _ h => h, fun _ h => h, fun b _ => by rw [hh]⟩
  refine ⟨fun id o h => ?_, s.inj, s.fresh, fun b hb => by rw [hh]; exact s.imm b hb⟩
  obtain ⟨p, hp, r⟩ := s.rows _ _ h
  refine ⟨p, hp, ?_⟩
  cases p with
  | nil => exact r
  | at_ b c sz => exact r.more m r.2.1 (by rw [hh])

theorem Ext.heap (_ : Sat E nx H w) (hh : w'.heap = w.heap) (ho : w'.os = w.os) (ht : w'.tape = w.tape) (hu : w'.output = w.output) : Ext E H w N E H w' :=
  ⟨fun _ _ h => h, fun _ _ h => .inl h, fun _ h => h, fun _ h => .inl h, fun _ _ _ => by rw [hh], fun _ h => .inl h, by rw [hh]; exact Nat.le_refl _, ho, ht, hu⟩
end
end Go.Proofs.Ytoekncmggjhmjaa
