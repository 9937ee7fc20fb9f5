/- An engine for walks: objects are numbered anew. -/
import Derived.Test.YtecmagdefllihaaEq
import Derived.Test.YtecmagdefllihaaMet
namespace Go.Proofs.Ytecmagdefllihaa
open Go.RowKit

theorem ren_len (r : Nat → Nat) (o : AObj) : (o.ren r).body.len = o.body.len := by
  obtain ⟨t, sz, ex, fz, body⟩ := o
  cases body <;> simp [AObj.ren, Body.len]

theorem ren_cell (r : Nat → Nat) (o : AObj) (i j : Nat) : (o.ren r).body.cell? i j = (o.body.cell? i j).map (AV.ren r) := by
  obtain ⟨t, sz, ex, fz, body⟩ := o
  cases body with
  | rows l =>
    simp only [AObj.ren, Body.cell?, List.getElem?_map]
    cases l[i]? with
    | none => rfl
    | some e => simp [renL_get]
  | flat l =>
    simp only [AObj.ren, Body.cell?, List.getElem?_map]
    cases l[i]? with
    | none => rfl
    | some e => simp [renL_get]
  | bytes xs =>
    simp only [AObj.ren, Body.cell?]
    split
    · cases xs[i]? <;> simp [AV.ren]
    · rfl

theorem ORep.of_ren {E E0 : Env} {w : World} {r : Nat → Nat} (hI : ∀ b, E.I b ↔ E0.I b) (hf : ∀ id, E0.f id = E.f (r id)) {o : AObj} {p : Place} (h : ORep E w (o.ren r) p) : ORep E0 w o p := by
  cases p with
  | nil =>
    obtain ⟨h1, h2⟩ := h
    rw [ren_len] at h1
    exact ⟨h1, h2⟩
  | at_ b c sz =>
    obtain ⟨h1, h2, h3, h4, h5, cur, fr, h6, h7, h8, h9⟩ := h
    rw [ren_len] at h3 h5 h9
    refine ⟨h1, fun h => h2 ((hI b).2 h), h3, h4, h5, cur, fr, h6, h7, h8, fun i hi j hj => ?_⟩
    obtain ⟨a, v, e1, e2, e3⟩ := h9 i hi j hj
    rw [ren_cell] at e1
    obtain ⟨x, e4, rfl⟩ := Option.map_eq_some_iff.1 e1
    exact ⟨x, v, e4, e2, Rep.of_ren (fun b h => (hI b).1 h) hf e3 x rfl⟩

/-- what is so under these numbers is so under others -/
theorem Sat.renumber {E : Env} {nx nx' : Nat} {H H' : Heap} {w : World} (s : Sat E nx H w) (r : Nat → Nat) (hr : ∀ i j, r i = r j → i = j) (hnx : ∀ id, nx' ≤ id → nx ≤ r id) (hH : ∀ id x, H' id = some x → H (r id) = some (x.ren r)) :
    Sat ⟨fun id => E.f (r id), E.I⟩ nx' H' w where
  rows := fun id o h => by
    obtain ⟨p, hp, ro⟩ := s.rows _ _ (hH id o h)
    exact ⟨p, hp, ORep.of_ren (E := E) (E0 := ⟨fun id => E.f (r id), E.I⟩) (r := r) (fun _ => Iff.rfl) (fun _ => rfl) ro⟩
  inj := fun id id' o o' b c z c' z' h h' e e' => hr _ _ (s.inj _ _ _ _ _ _ _ _ _ (hH _ _ h) (hH _ _ h') e e')
  fresh := fun id h => s.fresh _ (hnx id h)
  imm := s.imm

theorem Hb.of_renumber {E : Env} {H H' : Heap} {r : Nat → Nat} (hH : ∀ id x, H' id = some x → H (r id) = some (x.ren r)) {b : Nat} (h : Hb ⟨fun id => E.f (r id), E.I⟩ H' b) : Hb E H b := by
  obtain ⟨id, o, c, z, h1, h2⟩ := h
  exact ⟨r id, _, c, z, hH _ _ h1, h2⟩

theorem renN_inj {ids : List Nat} {nx : Nat} (hd : ids.Nodup) (hl : ∀ x ∈ ids, x < nx) (i j : Nat) (h : renN ids nx i = renN ids nx j) : i = j := by
  unfold renN at h
  rw [List.getD_eq_getElem?_getD, List.getD_eq_getElem?_getD] at h
  by_cases hi : i < ids.length <;> by_cases hj : j < ids.length
  · rw [List.getElem?_eq_getElem hi, List.getElem?_eq_getElem hj, Option.getD_some, Option.getD_some] at h
    have hp := List.pairwise_iff_getElem.1 hd
    rcases Nat.lt_trichotomy i j with hc | hc | hc
    · exact absurd h (hp i j hi hj hc)
    · exact hc
    · exact absurd h.symm (hp j i hj hi hc)
  · rw [List.getElem?_eq_getElem hi, List.getElem?_eq_none (by omega), Option.getD_some, Option.getD_none] at h
    have := hl _ (List.getElem_mem hi)
    omega
  · rw [List.getElem?_eq_none (by omega), List.getElem?_eq_getElem hj, Option.getD_some, Option.getD_none] at h
    have := hl _ (List.getElem_mem hj)
    omega
  · rw [List.getElem?_eq_none (by omega), List.getElem?_eq_none (by omega), Option.getD_none, Option.getD_none] at h
    omega

theorem renN_fresh {ids : List Nat} {nx : Nat} (id : Nat) (h : ids.length ≤ id) : nx ≤ renN ids nx id := by
  unfold renN
  rw [List.getD_eq_getElem?_getD, List.getElem?_eq_none h, Option.getD_none]
  omega

/-! ### runs of which only the old blocks' frame is asked -/
structure Base (w0 : World) (E : Env) (H : Heap) (w : World) : Prop where
  hb : ∀ b, Hb E H b → w0.heap.size ≤ b
  fr : ∀ b, b < w0.heap.size → w.heap[b]? = w0.heap[b]?
  size : w0.heap.size ≤ w.heap.size
  os : w.os = w0.os
  tape : w.tape = w0.tape
  output : w.output = w0.output

theorem Base.ext {w0 w w' : World} {E E' : Env} {H H' : Heap} {N : Nat → Prop} (h : Base w0 E H w) (x : Ext E H w N E' H' w') : Base w0 E' H' w' where
  hb := fun b hb => (x.hb b hb).elim (h.hb b) fun h' => Nat.le_trans h.size h'
  fr := fun b hb => (x.fr b (Nat.lt_of_lt_of_le hb h.size) fun h' => absurd (h.hb b h') (Nat.not_le.2 hb)).trans (h.fr b hb)
  size := Nat.le_trans h.size x.size
  os := x.os.trans h.os
  tape := x.tape.trans h.tape
  output := x.output.trans h.output

/-- as Ev, but objects may have other numbers at the end -/
def EvW (P : Program) (c : Code) (st : St) (ex : Ex) (st' : St) : Prop :=
  ∀ (w0 : World) (E : Env) (a : Act) (w : World), Sat E st.nx (heapF st.hp) w → RepS E w st a → Base w0 E (heapF st.hp) w → ∀ (Q : Exit → Act → World → Prop),
    (∀ E' a' w', Sat E' st'.nx (heapF st'.hp) w' → RepS E' w' st' a' → Base w0 E' (heapF st'.hp) w' → a'.defers = a.defers → Q ex.to a' w') → c.wp P Q a w

theorem Ev.toW {P : Program} {c : Code} {st s : St} {ex : Ex} (h : Ev P c st ex s) : EvW P c st ex s :=
  fun _ E a w hs hr hb Q hQ => h E a w hs hr Q fun E' a' w' t1 t2 t3 t4 _ => hQ E' a' w' t1 t2 (hb.ext t3) t4

/-- s' says what s says, under other numbers -/
structure Renum (s' s : St) : Prop where
  len : s'.len = s.len
  r : ∃ r : Nat → Nat, (∀ i j, r i = r j → i = j) ∧ (∀ id, s'.nx ≤ id → s.nx ≤ r id) ∧ (∀ id x, heapF s'.hp id = some x → heapF s.hp (r id) = some (x.ren r)) ∧ ∀ t, tmF s' t = .any ∨ tmF s t = (tmF s' t).ren r

theorem EvW.renum {P : Program} {c : Code} {st s s' : St} {ex : Ex} (h : EvW P c st ex s) (l : Renum s' s) : EvW P c st ex s' := by
  intro w0 E a w hs hr hb Q hQ
  obtain ⟨hl, r, h1, h2, h3, h4⟩ := l
  refine h w0 E a w hs hr hb Q fun E' a' w' t1 t2 t3 t4 => hQ ⟨fun id => E'.f (r id), E'.I⟩ a' w' (t1.renumber r h1 h2 h3) ⟨t2.size.trans hl.symm, fun t => ?_⟩ ⟨fun b hb => t3.hb b (Hb.of_renumber h3 hb), t3.fr, t3.size, t3.os, t3.tape, t3.output⟩ t4
  rcases h4 t with h | h
  · rw [h]; exact .any _
  · exact Rep.of_ren (E := E') (E0 := ⟨fun id => E'.f (r id), E'.I⟩) (r := r) (fun _ h => h) (fun _ => rfl) (t2.rep t) _ h

theorem EvW.seq {P : Program} {x y : Code} {st s s' : St} {ex : Ex} (h1 : EvW P x st .normal s) (h2 : EvW P y s ex s') : EvW P (.seq x y) st ex s' :=
  fun w0 E a w hs hr hb Q hQ => wp_seq (h1 w0 E a w hs hr hb _ fun E1 a1 w1 t1 t2 t3 t4 => h2 w0 E1 a1 w1 t1 t2 t3 Q fun E2 a2 w2 u1 u2 u3 u4 => hQ E2 a2 w2 u1 u2 u3 (u4.trans t4))

/-- so many rounds -/
def EvWR (P : Program) (c : Code) (n : Nat) (st : St) (ex : Ex) (s : St) : Prop :=
  ∀ (w0 : World) (E : Env) (a : Act) (w : World), Sat E st.nx (heapF st.hp) w → RepS E w st a → Base w0 E (heapF st.hp) w → ∀ (Q : Exit → Act → World → Prop),
    (∀ E' a' w', Sat E' s.nx (heapF s.hp) w' → RepS E' w' s a' → Base w0 E' (heapF s.hp) w' → a'.defers = a.defers → Q ex.to a' w') → Code.rounds P c Q n a w

theorem EvWR.step {P : Program} {c : Code} {n : Nat} {st s s' : St} {ex : Ex} (h1 : EvW P c st .normal s) (h2 : EvWR P c n s ex s') : EvWR P c (n + 1) st ex s' := by
  intro w0 E a w hs hr hb Q hQ
  rw [rounds_succ]
  exact h1 w0 E a w hs hr hb _ fun E1 a1 w1 t1 t2 t3 t4 => h2 w0 E1 a1 w1 t1 t2 t3 Q fun E2 a2 w2 u1 u2 u3 u4 => hQ E2 a2 w2 u1 u2 u3 (u4.trans t4)

theorem EvWR.last {P : Program} {c : Code} {st s : St} {e : Nat} (h : EvW P c st (.exit e) s) : EvWR P c 1 st (.exit e) s := by
  intro w0 E a w hs hr hb Q hQ
  rw [rounds_succ]
  exact h w0 E a w hs hr hb _ fun E1 a1 w1 t1 t2 t3 t4 => hQ E1 a1 w1 t1 t2 t3 t4

theorem EvWR.loop {P : Program} {c : Code} {n : Nat} {st s : St} {ex : Ex} (h : EvWR P c n st ex s) : EvW P (.loop c) st ex s :=
  fun w0 E a w hs hr hb Q hQ => wp_loop_rounds n (h w0 E a w hs hr hb Q hQ)
end Go.Proofs.Ytecmagdefllihaa
