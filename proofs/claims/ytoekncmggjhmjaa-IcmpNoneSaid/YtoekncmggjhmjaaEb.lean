/- An engine for walks, second part: how the world may turn at one operation: a new object, an object written in place, an object that goes on under another number, an object that is never written again. -/
import Derived.Test.YtoekncmggjhmjaaEa
namespace Go.Proofs.Ytoekncmggjhmjaa
open Go.RowKit

def upd (H : Heap) (id : Nat) (o : Option AObj) : Heap := fun k => if k = id then o else H k
def applyU (H : Heap) (us : List (Nat × Option AObj)) : Heap := us.foldl (fun H u => upd H u.1 u.2) H

theorem upd_same (H : Heap) (id : Nat) (o : Option AObj) : upd H id o id = o := by simp [upd]
theorem upd_other (H : Heap) {id k : Nat} (o : Option AObj) (h : k ≠ id) : upd H id o k = H k := by simp [upd, h]

/-- the two worlds differ in their memory alone -/
structure Mem (w w' : World) : Prop where
  os : w'.os = w.os
  tape : w'.tape = w.tape
  output : w'.output = w.output

section
variable {E : Env} {H : Heap} {w w' : World} {N : Nat → Prop} {nx : Nat}

/-- the environment with one place more -/
def Env.put (E : Env) (id : Nat) (p : Place) : Env := ⟨fun k => if k = id then some p else E.f k, E.I⟩

theorem Env.put_same (E : Env) (id : Nat) (p : Place) : (E.put id p).f id = some p := by simp [Env.put]
theorem Env.put_old {E : Env} {id : Nat} (p : Place) (hn : E.f id = none) : ∀ k q, E.f k = some q → (E.put id p).f k = some q := by
  intro k q h
  simp only [Env.put]
  split
  · subst_vars; rw [hn] at h; cases h
  · exact h
theorem Env.put_inv {E : Env} {id : Nat} {p : Place} {k : Nat} {q : Place} (h : (E.put id p).f k = some q) : (k = id ∧ q = p) ∨ (k ≠ id ∧ E.f k = some q) := by
  simp only [Env.put] at h
  split at h
  · injection h with h; exact .inl ⟨by assumption, h.symm⟩
  · exact .inr ⟨by assumption, h⟩

theorem Sat.none_of (s : Sat E nx H w) {id : Nat} (h : E.f id = none) : H id = none := by
  cases hh : H id with
  | none => rfl
  | some o => obtain ⟨p, hp, _⟩ := s.rows _ _ hh; rw [h] at hp; cases hp

/-- a new object in a new block -/
theorem sat_new (s : Sat E nx H w) {rid nx' : Nat} (hr : E.f rid = none) (hnx : nx ≤ nx') (hrid : rid < nx') {cur : Array Value} {fr : Nat × Nat} {o : AObj} {c : Nat}
    (hh : w'.heap = w.heap.push (.cells cur o.t fr)) (hm : Mem w w') (hs : cur.size = c * o.sz) (hl : o.body.len ≤ c) (hc : c ≤ maxLen) (he : o.exact = true → c = o.body.len) (hfr : fr = (0, 0) ∨ (o.fz = true ∧ c * o.sz ≤ fr.1))
    (hcells : ∀ i, i < o.body.len → ∀ j, j < o.sz → ∃ a v, o.body.cell? i j = some a ∧ cur[i * o.sz + j]? = some v ∧ Rep E w a v) :
    Sat (E.put rid (.at_ w.heap.size c o.sz)) nx' (upd H rid (some o)) w' ∧ Ext E H w (fun id => id = rid) (E.put rid (.at_ w.heap.size c o.sz)) (upd H rid (some o)) w' := by
  have hsz : w'.heap.size = w.heap.size + 1 := by rw [hh, Array.size_push]
  have hold : ∀ k, k < w.heap.size → w'.heap[k]? = w.heap[k]? := fun k hk => by rw [hh, Array.getElem?_push, if_neg (by omega)]
  have hnew : w'.heap[w.heap.size]? = some (.cells cur o.t fr) := by rw [hh, Array.getElem?_push, if_pos rfl]
  have m : More E w (E.put rid (.at_ w.heap.size c o.sz)) w' := ⟨Env.put_old _ hr, fun _ h => h, fun b hb => hold b (s.imm b hb)⟩
  have hno : ¬ E.I w.heap.size := fun h => by have := s.imm _ h; omega
  refine ⟨⟨fun id x h => ?_, fun id id' x x' b c1 z1 c2 z2 h h' hf hf' => ?_, fun id hid => ?_, fun b hb => by have := s.imm b hb; omega⟩, ?_⟩
  · by_cases hid : id = rid
    · subst hid
      rw [upd_same] at h
      cases h
      refine ⟨_, Env.put_same _ _ _, rfl, hno, hl, hc, he, cur, fr, hnew, hs, hfr, fun i hi j hj => ?_⟩
      obtain ⟨a, v, e1, e2, r⟩ := hcells i hi j hj
      exact ⟨a, v, e1, e2, r.more m⟩
    · rw [upd_other _ _ hid] at h
      obtain ⟨p, hp, r⟩ := s.rows _ _ h
      refine ⟨p, m.f _ _ hp, ?_⟩
      cases p with
      | nil => exact r
      | at_ b c1 z1 => exact r.more m r.2.1 (hold b (s.lt h hp))
  · have key : ∀ k y b c1 z1, upd H rid (some o) k = some y → (E.put rid (.at_ w.heap.size c o.sz)).f k = some (.at_ b c1 z1) → (k = rid ∧ b = w.heap.size) ∨ (k ≠ rid ∧ H k = some y ∧ E.f k = some (.at_ b c1 z1) ∧ b < w.heap.size) := by
      intro k y b c1 z1 hk hfk
      rcases Env.put_inv hfk with ⟨e, q⟩ | ⟨e, q⟩
      · injection q with q1 q2 q3
        exact .inl ⟨e, q1⟩
      · rw [upd_other _ _ e] at hk
        exact .inr ⟨e, hk, q, s.lt hk q⟩
    rcases key _ _ _ _ _ h hf with ⟨e1, e2⟩ | ⟨e1, e2, e3, e4⟩ <;> rcases key _ _ _ _ _ h' hf' with ⟨d1, d2⟩ | ⟨d1, d2, d3, d4⟩
    · rw [e1, d1]
    · omega
    · omega
    · exact s.inj _ _ _ _ _ _ _ _ _ e2 d2 e3 d3
  · simp only [Env.put]
    rw [if_neg (by omega)]
    exact s.fresh id (by omega)
  · refine ⟨m.f, fun id p h => ?_, fun _ h => h, fun _ h => .inl h, fun b hb _ => hold b hb, ?_, by omega, hm.os, hm.tape, hm.output⟩
    · rcases Env.put_inv h with ⟨e, _⟩ | ⟨_, q⟩
      · exact .inr e
      · exact .inl q
    · rintro b ⟨id, x, c1, z1, h, hf⟩
      rcases Env.put_inv hf with ⟨_, q⟩ | ⟨e, q⟩
      · injection q with q1
        exact .inr (by omega)
      · rw [upd_other _ _ e] at h
        exact .inl ⟨id, x, c1, z1, h, q⟩

/-- an object written in place; it may go on under another number -/
theorem sat_set (s : Sat E nx H w) {id b c sz : Nat} {o o' : AObj} (hid : H id = some o) (hf : E.f id = some (.at_ b c sz)) {cur' : Array Value} {fr : Nat × Nat}
    (hb : w'.heap[b]? = some (.cells cur' o'.t fr)) (hk : ∀ k, k ≠ b → w'.heap[k]? = w.heap[k]?) (hsz : w'.heap.size = w.heap.size) (hm : Mem w w')
    (ho : sz = o'.sz) (hs : cur'.size = c * sz) (hl : o'.body.len ≤ c) (he : o'.exact = true → c = o'.body.len) (hfr : fr = (0, 0) ∨ (o'.fz = true ∧ c * sz ≤ fr.1))
    (hcells : ∀ i, i < o'.body.len → ∀ j, j < sz → ∃ a v, o'.body.cell? i j = some a ∧ cur'[i * sz + j]? = some v ∧ Rep E w a v) :
    Sat E nx (upd H id (some o')) w' ∧ Ext E H w N E (upd H id (some o')) w' := by
  have hI : ¬ E.I b := s.notI ⟨id, o, c, sz, hid, hf⟩
  have m : More E w E w' := ⟨fun _ _ h => h, fun _ h => h, fun b' hb' => hk b' (fun e => hI (e ▸ hb'))⟩
  have hcm : c ≤ maxLen := by
    obtain ⟨p, hp, r⟩ := s.rows _ _ hid
    rw [hf] at hp; cases hp
    exact r.2.2.2.1
  refine ⟨⟨fun k x h => ?_, fun k k' x x' b1 c1 z1 c2 z2 h h' hf1 hf2 => ?_, s.fresh, fun b' hb' => by rw [hsz]; exact s.imm b' hb'⟩, ?_⟩
  · by_cases hkk : k = id
    · subst hkk
      rw [upd_same] at h
      cases h
      refine ⟨_, hf, ho, hI, hl, hcm, he, cur', fr, hb, hs, hfr, fun i hi j hj => ?_⟩
      obtain ⟨a, v, e1, e2, r⟩ := hcells i hi j hj
      exact ⟨a, v, e1, e2, r.more m⟩
    · rw [upd_other _ _ hkk] at h
      obtain ⟨p, hp, r⟩ := s.rows _ _ h
      refine ⟨p, hp, ?_⟩
      cases p with
      | nil => exact r
      | at_ b1 c1 z1 => exact r.more m r.2.1 (hk b1 (fun e => by subst e; exact hkk (s.inj _ _ _ _ _ _ _ _ _ h hid hp hf)))
  · have key : ∀ k y, upd H id (some o') k = some y → ∃ y', H k = some y' := fun k y hy => by
      by_cases e : k = id
      · exact ⟨o, by rw [e]; exact hid⟩
      · rw [upd_other _ _ e] at hy; exact ⟨y, hy⟩
    obtain ⟨y, hy⟩ := key _ _ h
    obtain ⟨y', hy'⟩ := key _ _ h'
    exact s.inj _ _ _ _ _ _ _ _ _ hy hy' hf1 hf2
  · refine ⟨fun _ _ h => h, fun _ _ h => .inl h, fun _ h => h, fun _ h => .inl h, fun b' _ hn => hk b' (fun e => hn (e ▸ ⟨id, o, c, sz, hid, hf⟩)), ?_, by omega, hm.os, hm.tape, hm.output⟩
    rintro b' ⟨k, x, c1, z1, h, hf1⟩
    by_cases e : k = id
    · subst e
      exact .inl ⟨k, o, c1, z1, hid, hf1⟩
    · rw [upd_other _ _ e] at h
      exact .inl ⟨k, x, c1, z1, h, hf1⟩

/-- an object goes on under a new number -/
theorem sat_rename (s : Sat E nx H w) {id rid nx' : Nat} {o : AObj} (hid : H id = some o) {p : Place} (hf : E.f id = some p) (hr : E.f rid = none) (hnx : nx ≤ nx') (hrid : rid < nx') :
    Sat (E.put rid p) nx' (upd (upd H id none) rid (some o)) w ∧ Ext E H w (fun k => k = rid) (E.put rid p) (upd (upd H id none) rid (some o)) w := by
  have hne : rid ≠ id := fun e => by rw [e, hf] at hr; cases hr
  have m : More E w (E.put rid p) w := ⟨Env.put_old _ hr, fun _ h => h, fun _ _ => rfl⟩
  have key : ∀ k y q, upd (upd H id none) rid (some o) k = some y → (E.put rid p).f k = some q → ∃ k', H k' = some y ∧ E.f k' = some q ∧ ((k = rid ∧ k' = id) ∨ (k ≠ rid ∧ k' = k ∧ k ≠ id)) := by
    intro k y q hk hq
    by_cases e : k = rid
    · subst e
      rw [upd_same] at hk; cases hk
      rw [Env.put_same] at hq; cases hq
      exact ⟨id, hid, hf, .inl ⟨rfl, rfl⟩⟩
    · rw [upd_other _ _ e] at hk
      by_cases e2 : k = id
      · subst e2; rw [upd_same] at hk; cases hk
      · rw [upd_other _ _ e2] at hk
        rcases Env.put_inv hq with ⟨h1, _⟩ | ⟨_, h1⟩
        · exact absurd h1 e
        · exact ⟨k, hk, h1, .inr ⟨e, rfl, e2⟩⟩
  refine ⟨⟨fun k x h => ?_, fun k k' x x' b1 c1 z1 c2 z2 h h' hf1 hf2 => ?_, fun k hk => ?_, s.imm⟩, ?_⟩
  · have : ∃ q, (E.put rid p).f k = some q := by
      by_cases e : k = rid
      · exact ⟨p, by rw [e]; exact Env.put_same _ _ _⟩
      · rw [upd_other _ _ e] at h
        by_cases e2 : k = id
        · subst e2; rw [upd_same] at h; cases h
        · rw [upd_other _ _ e2] at h
          obtain ⟨q, hq, _⟩ := s.rows _ _ h
          exact ⟨q, m.f _ _ hq⟩
    obtain ⟨q, hq⟩ := this
    obtain ⟨k', h1, h2, _⟩ := key _ _ _ h hq
    obtain ⟨q', hq', r⟩ := s.rows _ _ h1
    rw [h2] at hq'; cases hq'
    refine ⟨q, hq, ?_⟩
    cases q with
    | nil => exact r
    | at_ b c z => exact r.more m r.2.1 rfl
  · obtain ⟨a, a1, a2, a3⟩ := key _ _ _ h hf1
    obtain ⟨a', b1', b2', b3'⟩ := key _ _ _ h' hf2
    have := s.inj _ _ _ _ _ _ _ _ _ a1 b1' a2 b2'
    rcases a3 with ⟨x1, x2⟩ | ⟨x1, x2, x3⟩ <;> rcases b3' with ⟨y1, y2⟩ | ⟨y1, y2, y3⟩ <;> omega
  · simp only [Env.put]
    rw [if_neg (by omega)]
    exact s.fresh k (by omega)
  · refine ⟨m.f, fun k q h => ?_, fun _ h => h, fun _ h => .inl h, fun _ _ _ => rfl, ?_, Nat.le_refl _, rfl, rfl, rfl⟩
    · rcases Env.put_inv h with ⟨e, _⟩ | ⟨_, q⟩
      · exact .inr e
      · exact .inl q
    · rintro b ⟨k, x, c1, z1, h, hf1⟩
      obtain ⟨k', h1, h2, _⟩ := key _ _ _ h hf1
      exact .inl ⟨k', x, c1, z1, h1, h2⟩

/-- an object is never written again -/
def Env.freeze (E : Env) (id : Nat) : Env := ⟨E.f, fun b => E.I b ∨ ∃ c sz, E.f id = some (.at_ b c sz)⟩

theorem sat_freeze (s : Sat E nx H w) {id : Nat} {o : AObj} (hid : H id = some o) :
    Sat (E.freeze id) nx (upd H id none) w ∧ Ext E H w N (E.freeze id) (upd H id none) w := by
  have m : More E w (E.freeze id) w := ⟨fun _ _ h => h, fun _ h => .inl h, fun _ _ => rfl⟩
  have key : ∀ k x, upd H id none k = some x → k ≠ id ∧ H k = some x := fun k x h => by
    by_cases e : k = id
    · subst e; rw [upd_same] at h; cases h
    · rw [upd_other _ _ e] at h; exact ⟨e, h⟩
  refine ⟨⟨fun k x h => ?_, fun k k' x x' b1 c1 z1 c2 z2 h h' => s.inj _ _ _ _ _ _ _ _ _ (key _ _ h).2 (key _ _ h').2, s.fresh, ?_⟩, ?_⟩
  · obtain ⟨e, h1⟩ := key _ _ h
    obtain ⟨q, hq, r⟩ := s.rows _ _ h1
    refine ⟨q, hq, ?_⟩
    cases q with
    | nil => exact r
    | at_ b c z =>
      refine r.more m ?_ rfl
      rintro (hI | ⟨c', z', h2⟩)
      · exact r.2.1 hI
      · exact e (s.inj _ _ _ _ _ _ _ _ _ h1 hid hq h2)
  · rintro b (hI | ⟨c', z', h2⟩)
    · exact s.imm b hI
    · exact s.lt hid h2
  · refine ⟨fun _ _ h => h, fun _ _ h => .inl h, fun _ h => .inl h, ?_, fun _ _ _ => rfl, ?_, Nat.le_refl _, rfl, rfl, rfl⟩
    · rintro b (hI | ⟨c', z', h2⟩)
      · exact .inl hI
      · exact .inr (.inr ⟨id, o, c', z', hid, h2⟩)
    · rintro b ⟨k, x, c1, z1, h, hf1⟩
      exact .inl ⟨k, x, c1, z1, (key _ _ h).2, hf1⟩
end
end Go.Proofs.Ytoekncmggjhmjaa
