/- Several texts in one: Bw, Fr. -/
import Derived.Test.YtfofhpkafhpicaaGreatDoorFx
import Derived.Test.YtfofhpkafhpicaaGreatDoorOp

/- What a call does with slices that nobody writes it does with an object of the walk's own too, and leaves that as it was. -/
namespace Go.Proofs.YtfofhpkafhpicaaGreatDoor
open Go.RowKit

/-- a slice of object id, as one that nobody writes -/
inductive Bor (id : Nat) (o : AObj) : AV → AV → Prop where
  | same (a : AV) : Bor id o a a
  | view {off n : Nat} {lim : Option Nat} {rows : List (List AV)} {g : Nat → List AV} (hb : o.body = .rows rows ∨ o.body = .flat rows) (h : off + n ≤ rows.length) (hg : ∀ i, i < n → g i = rows.getD (off + i) []) (hl : ∀ i, i < n → (g i).length = o.sz) : Bor id o (.sl id off n lim) (.view o.sz n g)
  | bytes {off n : Nat} {lim : Option Nat} {ys : List UInt8} (hb : o.body = .bytes ys) (hs : o.sz = 1) (h : off + n ≤ ys.length) : Bor id o (.sl id off n lim) (.bytes ((ys.drop off).take n))

def inPl : Place → Nat → Prop
  | .nil, _ => False
  | .at_ b _ _, x => x = b

theorem Bor.rep {E E1 : Env} {w : World} {id : Nat} {o : AObj} {p : Place} (hp0 : E.f id = some p) (ro : ORep E w o p) (m : More E w E1 w) (hI : ∀ x, inPl p x → E1.I x) {a a' : AV} (hb : Bor id o a' a) {u : Value} (r : Rep E w a' u) : Rep E1 w a u := by
  cases hb with
  | same => exact r.more m
  | view hb h hgv hl =>
    rename_i off n lim rows g
    cases r with
    | slnil hE _ => exact .view (c := 0) (b := 0) (o := 0) (fun _ _ => undef) (Nat.le_refl _) (Nat.zero_le _) (fun h => absurd h (by omega)) (fun i hi => absurd hi (by omega)) (fun i j hi => absurd hi (by omega)) (fun i j a hi => absurd hi (by omega))
    | sl hE hc hlim hn hA =>
      rename_i b c sz cap A
      rw [hE] at hp0
      cases hp0
      obtain ⟨h1, _, h3, h4, _, cur, fr, hg, hs, _, hcell⟩ := ro
      subst h1
      have hlen : o.body.len = rows.length := by rcases hb with hb | hb <;> rw [hb] <;> rfl
      have hcellr : ∀ i j, o.body.cell? i j = (rows[i]?).bind (·[j]?) := by intro i j; rcases hb with hb | hb <;> rw [hb] <;> rfl
      have hrow : ∀ i, i < n → rows[off + i]? = some (rows.getD (off + i) []) := fun i hi => by
        rw [List.getD_eq_getElem?_getD, List.getElem?_eq_getElem (by omega)]; rfl
      have key : ∀ i j, i < n → j < o.sz → ∃ a v, (g i)[j]? = some a ∧ w.cell? ⟨b, off * o.sz + i * o.sz + j, none⟩ = some v ∧ Rep E w a v := by
        intro i j hi hj
        obtain ⟨a, v, e1, e2, e3⟩ := hcell (off + i) (by rw [hlen]; omega) j hj
        rw [hcellr, hrow i hi, Option.bind_some, ← hgv i hi] at e1
        refine ⟨a, v, e1, ?_, e3⟩
        have : off * o.sz + i * o.sz + j = (off + i) * o.sz + j := by rw [Nat.add_mul]
        rw [this]
        simp [World.cell?, hg, e2]
      refine .view (c := cap) (b := b) (o := off * o.sz) (fun i j => (w.cell? ⟨b, off * o.sz + i * o.sz + j, none⟩).getD undef) hn (by omega) (fun h0 => ⟨hA.resolve_left (by omega), hI _ rfl⟩) hl (fun i j hi hj => ?_) (fun i j a hi ha => ?_)
      · obtain ⟨a, v, _, e2, _⟩ := key i j hi hj
        rw [e2]; rfl
      · have hj : j < o.sz := by
          have := (List.getElem?_eq_some_iff.1 ha).1
          rw [hl i hi] at this
          exact this
        obtain ⟨a', v, e1, e2, e3⟩ := key i j hi hj
        rw [ha] at e1
        cases e1
        rw [e2]
        exact e3.more m
  | bytes hb hs1 h =>
    rename_i off n lim ys
    have hln : ((ys.drop off).take n).length = n := by simp; omega
    cases r with
    | slnil hE _ => exact .bytes hln (Nat.le_refl _) (Nat.zero_le _) (fun h => absurd h (by omega))
    | sl hE hc hlim hn hA =>
      rename_i b c sz cap A
      rw [hE] at hp0
      cases hp0
      obtain ⟨h1, _, h3, h4, _, cur, fr, hg, hs, _, hcell⟩ := ro
      subst h1
      refine .bytes hln hn (by omega) fun h0 => ⟨b, off * o.sz, hA.resolve_left (by omega), hI _ rfl, fun i x hx => ?_⟩
      rw [List.getElem?_take] at hx
      split at hx
      · rename_i hi
        rw [List.getElem?_drop] at hx
        obtain ⟨a, v, e1, e2, e3⟩ := hcell (off + i) (by rw [hb]; simp only [Body.len]; omega) 0 (by omega)
        rw [hb] at e1
        simp only [Body.cell?, if_true, hx, Option.map_some, Option.some.injEq] at e1
        subst e1
        rw [e3.val_inv] at e2
        rw [hs1] at e2 ⊢
        simp only [Nat.mul_one, Nat.add_zero] at e2 ⊢
        simp [World.cell?, hg, e2]
      · cases hx

theorem ACall.borrow {P : Program} {g : FuncId} {xs xs' : List AV} {L L' : List (Nat × AObj)} {nx n1 : Nat} {v : Value} {id : Nat} {o : AObj} (h : ACall P g xs L nx (.val v) L' n1) (hid : hp L id = none) (hid' : hp L' id = none)
    (hlen : xs.length = xs'.length) (hb : ∀ (k : Nat) a a', xs[k]? = some a → xs'[k]? = some a' → Bor id o a' a) (hpl : ∀ k x, hp L' k = some x → ∀ i j a, x.body.cell? i j = some a → ∃ v, a = .val v) :
    ACall P g xs' ((id, o) :: L) nx (.val v) ((id, o) :: L') n1 := by
  intro E w vs hs hr
  have hcons : ∀ (M : List (Nat × AObj)) k, hp ((id, o) :: M) k = if k = id then some o else hp M k := fun M k => rfl
  have hin : ∀ k x, hp L k = some x → k ≠ id ∧ hp ((id, o) :: L) k = some x := fun k x hk => by
    have : k ≠ id := fun e => by rw [e, hid] at hk; cases hk
    exact ⟨this, by rw [hcons, if_neg this]; exact hk⟩
  have hme : hp ((id, o) :: L) id = some o := by rw [hcons, if_pos rfl]
  obtain ⟨p, hp0, ro⟩ := hs.rows id o hme
  have hbH : ∀ x, inPl p x → Hb E (hp ((id, o) :: L)) x := fun x hx => by
    cases p with
    | nil => exact hx.elim
    | at_ b c sz => exact ⟨id, o, c, sz, hme, by rw [show x = b from hx]; exact hp0⟩
  have hother : ∀ k x c' s' b, hp L k = some x → E.f k = some (.at_ b c' s') → ¬ inPl p b := fun k x c' s' b hk hf hx => by
    cases p with
    | nil => exact hx
    | at_ b0 c sz =>
      have e : b = b0 := hx
      subst e
      exact (hin k x hk).1 (hs.inj _ _ _ _ _ _ _ _ _ (hin k x hk).2 hme hf hp0)
  generalize hE1 : (⟨E.f, fun x => E.I x ∨ inPl p x⟩ : Env) = E1
  have f1 : E1.f = E.f := by rw [← hE1]
  have I1 : ∀ x, E1.I x ↔ (E.I x ∨ inPl p x) := fun x => by rw [← hE1]
  have m1 : More E w E1 w := ⟨fun k q hk => by rw [f1]; exact hk, fun x hx => (I1 x).2 (.inl hx), fun _ _ => rfl⟩
  have s1 : Sat E1 nx (hp L) w := by
    refine ⟨fun k x hk => ?_, fun k k' x x' b c z c' z' hk hk' hf hf' => ?_, fun k hk => by rw [f1]; exact hs.fresh k hk, fun x hx => ?_⟩
    · obtain ⟨q, hq, r⟩ := hs.rows _ _ (hin k x hk).2
      refine ⟨q, by rw [f1]; exact hq, ?_⟩
      cases q with
      | nil => exact r
      | at_ b c sz =>
        refine r.more m1 (fun hI => ?_) rfl
        rcases (I1 b).1 hI with hI | hI
        · exact r.2.1 hI
        · exact hother k x c sz b hk hq hI
    · rw [f1] at hf hf'
      exact hs.inj _ _ _ _ _ _ _ _ _ (hin k x hk).2 (hin k' x' hk').2 hf hf'
    · rcases (I1 x).1 hx with hx | hx
      · exact hs.imm x hx
      · exact hs.hb_lt (hbH x hx)
  have r1 : Reps E1 w xs vs := ⟨by rw [hr.1, hlen], fun k a u h1 h2 => by
    have hk : k < xs'.length := by rw [← hlen]; exact (List.getElem?_eq_some_iff.1 h1).1
    have e : xs'[k]? = some xs'[k] := List.getElem?_eq_getElem hk
    exact (hb k a _ h1 e).rep hp0 ro m1 (fun x hx => (I1 x).2 (.inr hx)) (hr.2 k _ u e h2)⟩
  refine Calls.mono (h E1 w vs s1 r1) fun e w' hh => ?_
  obtain ⟨E', u, rfl, t1, t2, t3⟩ := hh
  have mE := Ext.more s1 t3
  have hI' : ∀ x, inPl p x → E'.I x := fun x hx => t3.I x ((I1 x).2 (.inr hx))
  have hnI : ∀ x, inPl p x → ¬ E.I x := fun x hx => hs.notI (hbH x hx)
  have m2 : More E w ⟨E'.f, fun x => E'.I x ∧ ¬ inPl p x⟩ w' := ⟨fun k q hk => t3.f k q (by rw [f1]; exact hk), fun x hx => ⟨t3.I x ((I1 x).2 (.inl hx)), fun h => hnI x h hx⟩, fun x hx => mE.mem x ((I1 x).2 (.inl hx))⟩
  have hpid : E'.f id = some p := t3.f id p (by rw [f1]; exact hp0)
  have hbL : ∀ x, Hb E1 (hp L) x → Hb E (hp ((id, o) :: L)) x := fun x ⟨k, y, c, z, h1, h2⟩ => ⟨k, y, c, z, (hin k y h1).2, by rw [← f1]; exact h2⟩
  have hno' : ∀ k x b c z, hp L' k = some x → E'.f k = some (.at_ b c z) → ¬ inPl p b := fun k x b c z hk hf hx => t1.notI ⟨k, x, c, z, hk, hf⟩ (hI' b hx)
  have hin' : ∀ k, k ≠ id → hp ((id, o) :: L') k = hp L' k := fun k hk => by rw [hcons, if_neg hk]
  have hme' : ∀ k x, hp ((id, o) :: L') k = some x → (k = id ∧ x = o) ∨ (k ≠ id ∧ hp L' k = some x) := fun k x hk => by
    by_cases e : k = id
    · subst e; rw [hcons, if_pos rfl] at hk; cases hk; exact .inl ⟨rfl, rfl⟩
    · rw [hin' k e] at hk; exact .inr ⟨e, hk⟩
  refine ⟨⟨E'.f, fun x => E'.I x ∧ ¬ inPl p x⟩, u, rfl, ⟨fun k x hk => ?_, fun k k' x x' b c z c' z' hk hk' hf hf' => ?_, t1.fresh, fun x hx => t1.imm x hx.1⟩, ?_, ?_⟩
  · rcases hme' k x hk with ⟨rfl, rfl⟩ | ⟨_, hk⟩
    · refine ⟨p, hpid, ?_⟩
      cases p with
      | nil => exact ro
      | at_ b c sz => exact ro.more m2 (fun h => h.2 rfl) (mE.mem b ((I1 b).2 (.inr rfl)))
    · obtain ⟨q, hq, r⟩ := t1.rows _ _ hk
      refine ⟨q, hq, ?_⟩
      cases q with
      | nil => exact r
      | at_ b c sz =>
        obtain ⟨h1, h2, h3, h4, h5, cur, fr, hg, hsz, hf, hcell⟩ := r
        refine ⟨h1, fun h => h2 h.1, h3, h4, h5, cur, fr, hg, hsz, hf, fun i hi j hj => ?_⟩
        obtain ⟨a, y, e1, e2, e3⟩ := hcell i hi j hj
        obtain ⟨y', rfl⟩ := hpl k x hk i j a e1
        exact ⟨_, y, e1, e2, by rw [e3.val_inv]; exact .val _⟩
  · rcases hme' k x hk with ⟨e1, _⟩ | ⟨_, hq⟩ <;> rcases hme' k' x' hk' with ⟨e2, _⟩ | ⟨_, hq'⟩
    · rw [e1, e2]
    · exfalso
      refine hno' k' x' b c' z' hq' hf' ?_
      rw [e1] at hf
      have : some p = some (.at_ b c z) := hpid.symm.trans hf
      cases this
      rfl
    · exfalso
      refine hno' k x b c z hq hf ?_
      rw [e2] at hf'
      have : some p = some (.at_ b c' z') := hpid.symm.trans hf'
      cases this
      rfl
    · exact t1.inj _ _ _ _ _ _ _ _ _ hq hq' hf hf'
  · rw [t2.val_inv]; exact .val _
  · refine ⟨m2.f, fun k q hk => ?_, m2.I, fun x hx => ?_, fun b h1 h2 => t3.fr b h1 fun h => h2 (hbL b h), fun b ⟨k, x, c, z, h1, h2⟩ => ?_, t3.size, t3.os, t3.tape, t3.output⟩
    · have := t3.nw k q hk
      rwa [f1] at this
    · rcases t3.I' x hx.1 with h | h | h
      · rcases (I1 x).1 h with h | h
        · exact .inl h
        · exact (hx.2 h).elim
      · exact .inr (.inl h)
      · exact .inr (.inr (hbL x h))
    · rcases hme' k x h1 with ⟨rfl, rfl⟩ | ⟨_, h1⟩
      · left
        have : some p = some (.at_ b c z) := hpid.symm.trans h2
        cases this
        exact ⟨k, x, c, z, hme, hp0⟩
      · rcases t3.hb b ⟨k, x, c, z, h1, h2⟩ with h | h
        · exact .inl (hbL b h)
        · exact .inr h

theorem Rep.view_congr {E : Env} {w : World} {sz n : Nat} {g g' : Nat → List AV} {u : Value} (h : ∀ i, i < n → g i = g' i) (r : Rep E w (.view sz n g) u) : Rep E w (.view sz n g') u := by
  cases r with
  | view cells hc hm hA hl hcell hr =>
    exact .view cells hc hm hA (fun i hi => by rw [← h i hi]; exact hl i hi) hcell (fun i j a hi ha => hr i j a hi (by rw [h i hi]; exact ha))

/-- arguments by another name -/
theorem ACall.args {P : Program} {g : FuncId} {xs xs' : List AV} {L L' : List (Nat × AObj)} {nx n1 : Nat} {v : AV} (h : ACall P g xs L nx v L' n1) (hlen : xs.length = xs'.length)
    (hr : ∀ E w (k : Nat) a a' u, xs[k]? = some a → xs'[k]? = some a' → Rep E w a' u → Rep E w a u) : ACall P g xs' L nx v L' n1 := by
  intro E w vs hs hreps
  refine h E w vs hs ⟨by rw [hreps.1, hlen], fun k a u h1 h2 => ?_⟩
  have hk : k < xs'.length := by rw [← hlen]; exact (List.getElem?_eq_some_iff.1 h1).1
  have e : xs'[k]? = some xs'[k] := List.getElem?_eq_getElem hk
  exact hr E w k a _ u h1 e (hreps.2 k _ u e h2)

theorem leaf_int {k : IntKind} {r : List AV} (h1 : r.length = 1) (h : ∀ (j : Nat) lf a, [Leaf.int k][j]? = some lf → r[j]? = some a → LeafOk lf a) : ∃ z : Int, (Lit.int k z).wf = true ∧ r = [.val (.int k z)] := by
  match r, h1 with
  | [a], _ =>
    have := h 0 _ a rfl rfl
    cases this with
    | int hw => exact ⟨_, hw, rfl⟩
theorem leaf_str {r : List AV} (h1 : r.length = 1) (h : ∀ (j : Nat) lf a, [Leaf.str][j]? = some lf → r[j]? = some a → LeafOk lf a) : ∃ s : ByteArray, s.size ≤ maxLen ∧ r = [.val (.string s)] := by
  match r, h1 with
  | [a], _ =>
    have := h 0 _ a rfl rfl
    cases this with
    | str hs => exact ⟨_, hs, rfl⟩
theorem leaf_bool {r : List AV} (h1 : r.length = 1) (h : ∀ (j : Nat) lf a, [Leaf.bool][j]? = some lf → r[j]? = some a → LeafOk lf a) : ∃ b : Bool, r = [.val (.bool b)] := by
  match r, h1 with
  | [a], _ =>
    have := h 0 _ a rfl rfl
    cases this with
    | bool b => exact ⟨b, rfl⟩

/-! ### rounds by number -/
theorem EvXL.upto {P : Program} {n0 : Nat} {c : Code} {f : Nat → St} {s : St} {ex : Ex} (n : Nat) (h : ∀ i, i < n → EvX P n0 c (f i) .normal (f (i + 1))) (hl : EvX P n0 c (f n) ex s) (hne : ex ≠ .normal) : EvXL P n0 c (f 0) ex s := by
  have : ∀ m i, i + m = n → EvXL P n0 c (f i) ex s := by
    intro m
    induction m with
    | zero =>
      intro i hi
      obtain rfl : i = n := by omega
      exact EvXL.last hl hne
    | succ m ih =>
      intro i hi
      exact EvXL.step (h i (by omega)) (ih (i + 1) (by omega))
  exact this n 0 (by omega)
end Go.Proofs.YtfofhpkafhpicaaGreatDoor

/- Calls that read what there was, write nothing of it, and make new things: what they do out of plain arguments they do anywhere. -/
namespace Go.Proofs.YtfofhpkafhpicaaGreatDoor
open Go.RowKit

/-- nothing in it lies where nobody writes -/
inductive AV.Pl : AV → Prop where
  | val (v : Value) : Pl (.val v)
  | any : Pl .any
  | ptr (id i j : Nat) : Pl (.ptr id i j)
  | sl (id off n : Nat) (lim : Option Nat) : Pl (.sl id off n lim)
  | csl (id i j n c : Nat) : Pl (.csl id i j n c)
  | agg {l : List AV} (h : ∀ (k : Nat) a, l[k]? = some a → Pl a) : Pl (.agg l)
  | tup {l : List AV} (h : ∀ (k : Nat) a, l[k]? = some a → Pl a) : Pl (.tup l)

def AV.plB : Nat → AV → Bool
  | 0, _ => false
  | n + 1, a =>
    match a with
    | .val _ | .any | .ptr _ _ _ | .sl _ _ _ _ | .csl _ _ _ _ _ => true
    | .agg l => l.all (AV.plB n)
    | .tup l => l.all (AV.plB n)
    | _ => false

theorem AV.plB_ok : ∀ (n : Nat) (a : AV), a.plB n = true → a.Pl
  | 0, a, h => by simp [AV.plB] at h
  | n + 1, a, h => by
    cases a with
    | val v => exact .val v
    | any => exact .any
    | ptr id i j => exact .ptr id i j
    | sl id off n lim => exact .sl id off n lim
    | csl id i j n c => exact .csl id i j n c
    | agg l =>
      simp only [AV.plB, List.all_eq_true] at h
      exact .agg fun k a hk => AV.plB_ok n a (h a (List.mem_of_getElem? hk))
    | tup l =>
      simp only [AV.plB, List.all_eq_true] at h
      exact .tup fun k a hk => AV.plB_ok n a (h a (List.mem_of_getElem? hk))
    | _ => simp [AV.plB] at h

def AObj.plB (n : Nat) (x : AObj) : Bool :=
  match x.body with
  | .rows l => l.all fun e => e.all (AV.plB n)
  | .flat l => l.all fun e => e.all (AV.plB n)
  | .bytes _ => true

theorem AObj.plB_ok {n : Nat} {x : AObj} (h : x.plB n = true) (i j : Nat) (a : AV) (hc : x.body.cell? i j = some a) : a.Pl := by
  obtain ⟨t, sz, ex, fz, body⟩ := x
  have rows : ∀ l : List (List AV), (l.all fun e => e.all (AV.plB n)) = true → (l[i]?).bind (·[j]?) = some a → a.Pl := by
    intro l h hc
    obtain ⟨e, he, ha⟩ := Option.bind_eq_some_iff.1 hc
    simp only [List.all_eq_true] at h
    exact AV.plB_ok n a (h e (List.mem_of_getElem? he) a (List.mem_of_getElem? ha))
  cases body with
  | rows l => exact rows l h hc
  | flat l => exact rows l h hc
  | bytes xs =>
    simp only [Body.cell?] at hc
    split at hc
    · obtain ⟨y, _, rfl⟩ := Option.map_eq_some_iff.1 hc
      exact .val _
    · cases hc

theorem Rep.toPl {E0 E : Env} {w : World} {r : Nat → Nat} (hf : ∀ id p, E0.f id = some p → E.f (r id) = some p) {a : AV} {v : Value} (h : Rep E0 w a v) : a.Pl → Rep E w (a.ren r) v := by
  have get : ∀ (l : List AV) (k : Nat) (a : AV), (renL r l)[k]? = some a → ∃ b, l[k]? = some b ∧ a = b.ren r := fun l k a h => by
    rw [renL_get] at h
    obtain ⟨b, h1, h2⟩ := Option.map_eq_some_iff.1 h
    exact ⟨b, h1, h2.symm⟩
  induction h with
  | val v => intro _; exact .val _
  | any v => intro _; exact .any _
  | ptr h => intro _; exact .ptr (hf _ _ h)
  | sl h hc hl hn hA => intro _; exact .sl (hf _ _ h) hc hl hn hA
  | slnil h hl => intro _; exact .slnil (hf _ _ h) hl
  | csl h hn hm => intro _; exact .csl (hf _ _ h) hn hm
  | agg hn _ ih =>
    intro hp
    cases hp with
    | agg hp =>
      refine .agg (by rw [renL_len]; exact hn) fun k a v h1 h2 => ?_
      obtain ⟨b, hb, rfl⟩ := get _ _ _ h1
      exact ih k b v hb h2 (hp k b hb)
  | tup hn _ ih =>
    intro hp
    cases hp with
    | tup hp =>
      refine .tup (by rw [renL_len]; exact hn) fun k a v h1 h2 => ?_
      obtain ⟨b, hb, rfl⟩ := get _ _ _ h1
      exact ih k b v hb h2 (hp k b hb)
  | _ => intro hp; cases hp

/-- what a value of the walk's is to a call that takes all that there is as never written again -/
inductive Frs (H : Heap) : AV → AV → Prop where
  | free {a : AV} (h : ∀ r : Nat → Nat, a.ren r = a) : Frs H a a
  | any {a : AV} : Frs H a .any
  | bytes {x : AV} {ys : List UInt8} {p : Prop} (h : bytesOf H x = some (ys, p)) (hp : p) : Frs H x (.bytes ys)
  | agg {l l0 : List AV} (hn : l0.length = l.length) (h : ∀ (k : Nat) a a0, l[k]? = some a → l0[k]? = some a0 → Frs H a a0) : Frs H (.agg l) (.agg l0)
  | rows {id off n : Nat} {lim : Option Nat} {o : AObj} {rows : List (List AV)} {g : Nat → List AV} (hid : H id = some o) (hb : o.body = .rows rows ∨ o.body = .flat rows) (h : off + n ≤ rows.length) (hg : ∀ i, i < n → g i = rows.getD (off + i) []) (hl : ∀ i, i < n → (g i).length = o.sz)
      (hf : ∀ i, i < n → ∀ r, renL r (g i) = g i) : Frs H (.sl id off n lim) (.view o.sz n g)

def allOf (w : World) : Env := ⟨fun _ => none, fun b => b < w.heap.size⟩

theorem Rep.free {E : Env} {nx : Nat} {H : Heap} {w : World} (s : Sat E nx H w) {a : AV} (h : ∀ r : Nat → Nat, a.ren r = a) {u : Value} (r : Rep E w a u) : Rep (allOf w) w a u :=
  Rep.of_ren (E := E) (E0 := allOf w) (r := fun id => id + nx) (fun b hb => s.imm b hb) (fun id => (s.fresh (id + nx) (by omega)).symm) r a (h _).symm

theorem Frs.rep {E : Env} {nx : Nat} {H : Heap} {w : World} (s : Sat E nx H w) {a a0 : AV} (h : Frs H a a0) : ∀ {u : Value}, Rep E w a u → Rep (allOf w) w a0 u := by
  induction h with
  | free h => intro u r; exact r.free s h
  | any => intro u r; exact .any _
  | bytes h hp =>
    intro u r
    obtain ⟨A, n, c, rfl, rd⟩ := rd_of s h hp r
    refine .bytes rd.len rd.cap rd.max fun h0 => ?_
    obtain ⟨g, o, e, _, h2, h3⟩ := rd.at_ h0
    exact ⟨g, o, e, h2, h3⟩
  | agg hn _ ih =>
    intro u r
    cases r with
    | agg h1 h2 =>
      refine .agg (by rw [hn]; exact h1) fun k a0 v e1 e2 => ?_
      have hk := (List.getElem?_eq_some_iff.1 e1).1
      rw [hn] at hk
      exact ih k _ a0 (List.getElem?_eq_getElem hk) e1 (h2 k _ v (List.getElem?_eq_getElem hk) e2)
  | rows hid hb h hg hl hf =>
    rename_i id off n lim o rows g
    intro u r
    obtain ⟨p, hp0, ro⟩ := s.rows _ _ hid
    have m : More E w ⟨E.f, fun b => b < w.heap.size⟩ w := ⟨fun _ _ h => h, fun b hb => s.imm b hb, fun _ _ => rfl⟩
    have r2 : Rep ⟨E.f, fun b => b < w.heap.size⟩ w (.view o.sz n g) u := (Bor.view (id := id) (lim := lim) hb h hg hl).rep hp0 ro m (fun x hx => by
      cases p with
      | nil => exact hx.elim
      | at_ b c sz => rw [show x = b from hx]; exact s.lt hid hp0) r
    cases r2 with
    | view cells h1 h2 h3 h4 h5 h6 =>
      refine .view cells h1 h2 h3 h4 h5 fun i j a hi ha => ?_
      have e : ∀ q : Nat → Nat, a.ren q = a := fun q => by
        have := hf i hi q
        have h7 := renL_get q (g i) j
        rw [this, ha] at h7
        injection h7 with h7
        exact h7.symm
      exact Rep.of_ren (E := ⟨E.f, fun b => b < w.heap.size⟩) (E0 := allOf w) (r := fun id => id + nx) (fun b hb => hb) (fun id => (s.fresh (id + nx) (by omega)).symm) (h6 i j a hi ha) a (e _).symm

def plus (nx : Nat) : Nat → Nat := fun id => id + nx

theorem hp_renH_plus {nx : Nat} {L : List (Nat × AObj)} {k : Nat} {y : AObj} (h : hp (renH (plus nx) L) k = some y) : ∃ i x, k = i + nx ∧ y = x.ren (plus nx) ∧ hp L i = some x := by
  obtain ⟨i, x, h1, h2, h3⟩ := hp_renH_inv (r := plus nx) (fun i j h => by simp only [plus] at h; omega) L k y h
  exact ⟨i, x, h1, h2, h3⟩

theorem ACall.fresh {P : Program} {g : FuncId} {xs0 xs : List AV} {L L0 : List (Nat × AObj)} {nx n0 : Nat} {v0 : AV} (h : ACall P g xs0 [] 0 v0 L0 n0) (hv : v0.Pl) (hL : ∀ k x, hp L0 k = some x → ∀ i j a, x.body.cell? i j = some a → a.Pl)
    (hlen : xs0.length = xs.length) (hx : ∀ (k : Nat) a a0, xs[k]? = some a → xs0[k]? = some a0 → Frs (hp L) a a0) (hlt : ∀ k x, hp L k = some x → k < nx) :
    ACall P g xs L nx (v0.ren (plus nx)) (renH (plus nx) L0 ++ L) (nx + n0) := by
  intro E w vs hs hr
  have s0 : Sat (allOf w) 0 (hp []) w := ⟨fun _ _ h => by simp [hp] at h, fun _ _ _ _ _ _ _ _ _ h => by simp [hp] at h, fun _ _ => rfl, fun _ h => h⟩
  have r0 : Reps (allOf w) w xs0 vs := ⟨by rw [hr.1, hlen], fun k a0 u h1 h2 => by
    have hk := (List.getElem?_eq_some_iff.1 h1).1
    rw [hlen] at hk
    exact (hx k _ a0 (List.getElem?_eq_getElem hk) h1).rep hs (hr.2 k _ u (List.getElem?_eq_getElem hk) h2)⟩
  refine Calls.mono (h (allOf w) w vs s0 r0) fun e w' hh => ?_
  obtain ⟨E', u, rfl, t1, t2, t3⟩ := hh
  have hold : ∀ b, b < w.heap.size → w'.heap[b]? = w.heap[b]? := fun b hb => t3.fr b hb fun ⟨k, x, c, z, h1, _⟩ => by simp [hp] at h1
  have hnew : ∀ b, Hb E' (hp L0) b → w.heap.size ≤ b := fun b hb => by
    rcases t3.hb b hb with ⟨k, x, c, z, h1, _⟩ | h
    · simp [hp] at h1
    · exact h
  obtain ⟨EN, f_old, f_new, eI⟩ : ∃ EN : Env, (∀ k, k < nx → EN.f k = E.f k) ∧ (∀ k, EN.f (k + nx) = E'.f k) ∧ EN.I = E.I :=
    ⟨⟨fun k => if k < nx then E.f k else E'.f (k - nx), E.I⟩, fun k hk => if_pos hk, fun k => by
      show (if k + nx < nx then _ else _) = _
      rw [if_neg (by omega), Nat.add_sub_cancel], rfl⟩
  have m : More E w EN w' := ⟨fun k p hk => by
    have : k < nx := Nat.lt_of_not_le fun hn => by rw [hs.fresh k hn] at hk; cases hk
    rw [f_old k this]; exact hk, fun _ h => by rw [eI]; exact h, fun b hb => hold b (hs.imm b hb)⟩
  have hf : ∀ id p, E'.f id = some p → EN.f (plus nx id) = some p := fun id p hp' => (f_new id).trans hp'
  have split : ∀ k y, hp (renH (plus nx) L0 ++ L) k = some y → (∃ i x, k = i + nx ∧ y = x.ren (plus nx) ∧ hp L0 i = some x) ∨ (k < nx ∧ hp L k = some y) := fun k y hk => by
    rcases hp_append _ _ _ _ hk with h1 | ⟨_, h1⟩
    · exact .inl (hp_renH_plus h1)
    · exact .inr ⟨hlt _ _ h1, h1⟩
  refine ⟨EN, u, rfl, ⟨fun k y hk => ?_, fun k k' y y' b c z c' z' hk hk' e1 e2 => ?_, fun k hk => ?_, fun b hb => Nat.lt_of_lt_of_le (hs.imm b (by rw [eI] at hb; exact hb)) t3.size⟩, t2.toPl hf hv, ⟨m.f, fun k p hk => ?_, m.I, fun _ h => .inl (by rw [eI] at h; exact h), fun b hb _ => hold b hb, fun b ⟨k, y, c, z, h1, h2⟩ => ?_, t3.size, t3.os, t3.tape, t3.output⟩⟩
  · rcases split k y hk with ⟨i, x, rfl, rfl, hx'⟩ | ⟨hk', hy⟩
    · obtain ⟨p, hp', ro⟩ := t1.rows _ _ hx'
      refine ⟨p, by rw [f_new]; exact hp', ?_⟩
      cases p with
      | nil =>
        obtain ⟨h1, h2⟩ := ro
        exact ⟨by rw [ren_len]; exact h1, h2⟩
      | at_ b c sz =>
        obtain ⟨h1, h2, h3, h4, h5, cur, fr, h6, h7, h8, h9⟩ := ro
        refine ⟨h1, fun hI => ?_, by rw [ren_len]; exact h3, h4, by rw [ren_len]; exact h5, cur, fr, h6, h7, h8, fun i hi j hj => ?_⟩
        · have := hs.imm b (by rw [eI] at hI; exact hI)
          have := hnew b ⟨_, _, _, _, hx', hp'⟩
          omega
        · rw [ren_len] at hi
          obtain ⟨a, v, e1, e2, e3⟩ := h9 i hi j hj
          exact ⟨a.ren (plus nx), v, by rw [ren_cell, e1]; rfl, e2, e3.toPl hf (hL _ _ hx' _ _ _ e1)⟩
    · obtain ⟨p, hp', ro⟩ := hs.rows _ _ hy
      refine ⟨p, by rw [f_old k hk']; exact hp', ?_⟩
      cases p with
      | nil => exact ro
      | at_ b c sz => exact ro.more m (by rw [eI]; exact ro.2.1) (hold b (hs.lt hy hp'))
  · rcases split k y hk with ⟨i, x, rfl, rfl, hx1⟩ | ⟨h1, hy⟩ <;> rcases split k' y' hk' with ⟨i', x', rfl, rfl, hx2⟩ | ⟨h2, hy'⟩
    · rw [f_new] at e1 e2
      rw [t1.inj _ _ _ _ _ _ _ _ _ hx1 hx2 e1 e2]
    · rw [f_new] at e1
      rw [f_old _ h2] at e2
      have := hnew b ⟨_, _, _, _, hx1, e1⟩
      have := hs.lt hy' e2
      omega
    · rw [f_old _ h1] at e1
      rw [f_new] at e2
      have := hnew b ⟨_, _, _, _, hx2, e2⟩
      have := hs.lt hy e1
      omega
    · rw [f_old _ h1] at e1
      rw [f_old _ h2] at e2
      exact hs.inj _ _ _ _ _ _ _ _ _ hy hy' e1 e2
  · obtain ⟨j, rfl⟩ : ∃ j, k = j + nx := ⟨k - nx, by omega⟩
    rw [f_new]
    exact t1.fresh _ (by omega)
  · by_cases hk' : k < nx
    · left
      rwa [f_old k hk'] at hk
    · exact .inr (by omega)
  · rcases split k y h1 with ⟨i, x, rfl, rfl, hx1⟩ | ⟨h1', hy⟩
    · rw [f_new] at h2
      exact .inr (hnew b ⟨_, _, _, _, hx1, h2⟩)
    · rw [f_old k h1'] at h2
      exact .inl ⟨k, y, c, z, hy, h2⟩
/-- new things are numbered anew: nx, nx + 1 .. -/
theorem ACall.renew {P : Program} {g : FuncId} {xs : List AV} {L L1 L2 : List (Nat × AObj)} {nx n1 : Nat} {v v' : AV} (h : ACall P g xs L nx v L1 n1) (ids : List Nat) (hle : nx ≤ n1) (hd : ids.Nodup) (hl : ∀ x ∈ ids, nx ≤ x ∧ x < n1)
    (hv : v = v'.ren (renX nx ids n1)) (hL : ∀ k x, hp L2 k = some x → hp L1 (renX nx ids n1 k) = some (x.ren (renX nx ids n1))) : ACall P g xs L nx v' L2 (nx + ids.length) := by
  intro E w vs hs hr
  refine Calls.mono (h E w vs hs hr) fun e w' hh => ?_
  obtain ⟨E', u, rfl, t1, t2, t3⟩ := hh
  exact ⟨⟨fun id => E'.f (renX nx ids n1 id), E'.I⟩, u, rfl, t1.renumber _ (renX_inj hd hl hle) (fun id hid => renX_fresh id hid) hL,
    Rep.of_ren (E := E') (E0 := ⟨fun id => E'.f (renX nx ids n1 id), E'.I⟩) (r := renX nx ids n1) (fun _ h => h) (fun _ => rfl) t2 v' hv, t3.renumber hs _ renX_low hL⟩

def FrsL (H : Heap) (l l0 : List AV) : Prop := l0.length = l.length ∧ ∀ (k : Nat) a a0, l[k]? = some a → l0[k]? = some a0 → Frs H a a0
theorem FrsL.nil {H : Heap} : FrsL H [] [] := ⟨rfl, fun k a a0 h => by simp at h⟩
theorem FrsL.cons {H : Heap} {a a0 : AV} {l l0 : List AV} (h : Frs H a a0) (t : FrsL H l l0) : FrsL H (a :: l) (a0 :: l0) :=
  ⟨by simp [t.1], fun k b b0 h1 h2 => by
    cases k with
    | zero => simp at h1 h2; subst h1 h2; exact h
    | succ k => exact t.2 k b b0 (by simpa using h1) (by simpa using h2)⟩
theorem FrsL.agg {H : Heap} {l l0 : List AV} (h : FrsL H l l0) : Frs H (.agg l) (.agg l0) := .agg h.1 h.2
theorem Frs.v {H : Heap} (v : Value) : Frs H (.val v) (.val v) := .free fun _ => rfl

theorem ACall.fresh' {P : Program} {g : FuncId} {xs0 xs : List AV} {L L0 : List (Nat × AObj)} {nx n0 : Nat} {v0 : AV} (h : ACall P g xs0 [] 0 v0 L0 n0) (hv : v0.plB 9 = true) (hL : L0.all (fun p => p.2.plB 9) = true)
    (hx : FrsL (hp L) xs xs0) (hlt : L.all (fun p => decide (p.1 < nx)) = true) :
    ACall P g xs L nx (v0.ren (plus nx)) (renH (plus nx) L0 ++ L) (nx + n0) :=
  h.fresh (AV.plB_ok 9 _ hv) (fun k x hk => AObj.plB_ok (by
    have := hp_mem hk
    rw [List.all_eq_true] at hL
    exact hL _ this)) hx.1 hx.2 (fun k x hk => by
    have := hp_mem hk
    rw [List.all_eq_true] at hlt
    simpa using hlt _ this)
end Go.Proofs.YtfofhpkafhpicaaGreatDoor
