/- What a call does with slices that nobody writes it does with an object of the walk's own too, and leaves that as it was. -/
import Derived.Test.YtbpofglponmpnaaGreatDoorFx
import Derived.Test.YtbpofglponmpnaaGreatDoorOp
namespace Go.Proofs.YtbpofglponmpnaaGreatDoor
open Go.RowKit

/-- a slice of object id, as one that nobody writes -/
inductive Bor (id : Nat) (o : AObj) : AV → AV → Prop where
  | same (a : AV) : Bor id o a a
  | view {off n : Nat} {lim : Option Nat} {rows : List (List AV)} {g : Nat → List AV} (hb : o.body = .rows rows ∨ o.body = .flat rows) (h : off + n ≤ rows.length) (hg : ∀ i, i < n → g i = rows.getD (off + i) []) (hl : ∀ i, i < n → (g i).length = o.sz) : Bor id o (.sl id off n lim) (.view o.sz n g)
  | bytes {off n : Nat} {lim : Option Nat} {ys : List UInt8} (hb : o.body = .bytes ys) (hs : o.sz = 1) (h : off + n ≤ ys.length) : Bor id o (.sl id off n lim) (.bytes ((ys.drop off).take n))

def inPl : Place → Nat → Prop
  | .nil, _ => False
  | .at_ b _ _, x => x = b

theorem Bor.rep {E E1 : Env} {w : World} {id : Nat} {o : AObj} {p : Place} (hp0 : E.f id = some p) (ro : ORep E w o p) (m : More E w E1 w) (hI : ∀ x, inPl p x → E1.I x) {a a' : AV} (hb : Bor id o a' a) {u : Value} (r : Rep E w a' u) : Rep E1 w a u := by
  cases hb with
  | same => exact r.more m
  | view hb h hgv hl =>
    rename_i off n lim rows g
    cases r with
    | slnil hE _ => exact .view (c := 0) (b := 0) (o := 0) (fun _ _ => undef) (Nat.le_refl _) (Nat.zero_le _) (fun h => absurd h (by omega)) (fun i hi => absurd hi (by omega)) (fun i j hi => absurd hi (by omega)) (fun i j a hi => absurd hi (by omega))
    | sl hE hc hlim hn hA =>
      rename_i b c sz cap A
      rw [hE] at hp0
      cases hp0
      obtain ⟨h1, _, h3, h4, _, cur, fr, hg, hs, _, hcell⟩ := ro
      subst h1
      have hlen : o.body.len = rows.length := by rcases hb with hb | hb <;> rw [hb] <;> rfl
      have hcellr : ∀ i j, o.body.cell? i j = (rows[i]?).bind (·[j]?) := by intro i j; rcases hb with hb | hb <;> rw [hb] <;> rfl
      have hrow : ∀ i, i < n → rows[off + i]? = some (rows.getD (off + i) []) := fun i hi => by
        rw [List.getD_eq_getElem?_getD, List.getElem?_eq_getElem (by omega)]; rfl
      have key : ∀ i j, i < n → j < o.sz → ∃ a v, (g i)[j]? = some a ∧ w.cell? ⟨b, off * o.sz + i * o.sz + j, none⟩ = some v ∧ Rep E w a v := by
        intro i j hi hj
        obtain ⟨a, v, e1, e2, e3⟩ := hcell (off + i) (by rw [hlen]; omega) j hj
        rw [hcellr, hrow i hi, Option.bind_some, ← hgv i hi] at e1
        refine ⟨a, v, e1, ?_, e3⟩
        have : off * o.sz + i * o.sz + j = (off + i) * o.sz + j := by rw [Nat.add_mul]
        rw [this]
        simp [World.cell?, hg, e2]
      refine .view (c := cap) (b := b) (o := off * o.sz) (fun i j => (w.cell? ⟨b, off * o.sz + i * o.sz + j, none⟩).getD undef) hn (by omega) (fun h0 => ⟨hA.resolve_left (by omega), hI _ rfl⟩) hl (fun i j hi hj => ?_) (fun i j a hi ha => ?_)
      · obtain ⟨a, v, _, e2, _⟩ := key i j hi hj
        rw [e2]; rfl
      · have hj : j < o.sz := by
          have := (List.getElem?_eq_some_iff.1 ha).1
          rw [hl i hi] at this
          exact this
        obtain ⟨a', v, e1, e2, e3⟩ := key i j hi hj
        rw [ha] at e1
        cases e1
        rw [e2]
        exact e3.more m
  | bytes hb hs1 h =>
    rename_i off n lim ys
    have hln : ((ys.drop off).take n).length = n := by simp; omega
    cases r with
    | slnil hE _ => exact .bytes hln (Nat.le_refl _) (Nat.zero_le _) (fun h => absurd h (by omega))
    | sl hE hc hlim hn hA =>
      rename_i b c sz cap A
      rw [hE] at hp0
      cases hp0
      obtain ⟨h1, _, h3, h4, _, cur, fr, hg, hs, _, hcell⟩ := ro
      subst h1
      refine .bytes hln hn (by omega) fun h0 => ⟨b, off * o.sz, hA.resolve_left (by omega), hI _ rfl, fun i x hx => ?_⟩
      rw [List.getElem?_take] at hx
      split at hx
      · rename_i hi
        rw [List.getElem?_drop] at hx
        obtain ⟨a, v, e1, e2, e3⟩ := hcell (off + i) (by rw [hb]; simp only [Body.len]; omega) 0 (by omega)
        rw [hb] at e1
        simp only [Body.cell?, if_true, hx, Option.map_some, Option.some.injEq] at e1
        subst e1
        rw [e3.val_inv] at e2
        rw [hs1] at e2 ⊢
        simp only [Nat.mul_one, Nat.add_zero] at e2 ⊢
        simp [World.cell?, hg, e2]
      · cases hx

theorem ACall.borrow {P : Program} {g : FuncId} {xs xs' : List AV} {L L' : List (Nat × AObj)} {nx n1 : Nat} {v : Value} {id : Nat} {o : AObj} (h : ACall P g xs L nx (.val v) L' n1) (hid : hp L id = none) (hid' : hp L' id = none)
    (hlen : xs.length = xs'.length) (hb : ∀ (k : Nat) a a', xs[k]? = some a → xs'[k]? = some a' → Bor id o a' a) (hpl : ∀ k x, hp L' k = some x → ∀ i j a, x.body.cell? i j = some a → ∃ v, a = .val v) :
    ACall P g xs' ((id, o) :: L) nx (.val v) ((id, o) :: L') n1 := by
  intro E w vs hs hr
  have hcons : ∀ (M : List (Nat × AObj)) k, hp ((id, o) :: M) k = if k = id then some o else hp M k := fun M k => rfl
  have hin : ∀ k x, hp L k = some x → k ≠ id ∧ hp ((id, o) :: L) k = some x := fun k x hk => by
    have : k ≠ id := fun e => by rw [e, hid] at hk; cases hk
    exact ⟨this, by rw [hcons, if_neg this]; exact hk⟩
  have hme : hp ((id, o) :: L) id = some o := by rw [hcons, if_pos rfl]
  obtain ⟨p, hp0, ro⟩ := hs.rows id o hme
  have hbH : ∀ x, inPl p x → Hb E (hp ((id, o) :: L)) x := fun x hx => by
    cases p with
    | nil => exact hx.elim
    | at_ b c sz => exact ⟨id, o, c, sz, hme, by rw [show x = b from hx]; exact hp0⟩
  have hother : ∀ k x c' s' b, hp L k = some x → E.f k = some (.at_ b c' s') → ¬ inPl p b := fun k x c' s' b hk hf hx => by
    cases p with
    | nil => exact hx
    | at_ b0 c sz =>
      have e : b = b0 := hx
      subst e
      exact (hin k x hk).1 (hs.inj _ _ _ _ _ _ _ _ _ (hin k x hk).2 hme hf hp0)
  generalize hE1 : (⟨E.f, fun x => E.I x ∨ inPl p x⟩ : Env) = E1
  have f1 : E1.f = E.f := by rw [← hE1]
  have I1 : ∀ x, E1.I x ↔ (E.I x ∨ inPl p x) := fun x => by rw [← hE1]
  have m1 : More E w E1 w := ⟨fun k q hk => by rw [f1]; exact hk, fun x hx => (I1 x).2 (.inl hx), fun _ _ => rfl⟩
  have s1 : Sat E1 nx (hp L) w := by
    refine ⟨fun k x hk => ?_, fun k k' x x' b c z c' z' hk hk' hf hf' => ?_, fun k hk => by rw [f1]; exact hs.fresh k hk, fun x hx => ?_⟩
    · obtain ⟨q, hq, r⟩ := hs.rows _ _ (hin k x hk).2
      refine ⟨q, by rw [f1]; exact hq, ?_⟩
      cases q with
      | nil => exact r
      | at_ b c sz =>
        refine r.more m1 (fun hI => ?_) rfl
        rcases (I1 b).1 hI with hI | hI
        · exact r.2.1 hI
        · exact hother k x c sz b hk hq hI
    · rw [f1] at hf hf'
      exact hs.inj _ _ _ _ _ _ _ _ _ (hin k x hk).2 (hin k' x' hk').2 hf hf'
    · rcases (I1 x).1 hx with hx | hx
      · exact hs.imm x hx
      · exact hs.hb_lt (hbH x hx)
  have r1 : Reps E1 w xs vs := ⟨by rw [hr.1, hlen], fun k a u h1 h2 => by
    have hk : k < xs'.length := by rw [← hlen]; exact (List.getElem?_eq_some_iff.1 h1).1
    have e : xs'[k]? = some xs'[k] := List.getElem?_eq_getElem hk
    exact (hb k a _ h1 e).rep hp0 ro m1 (fun x hx => (I1 x).2 (.inr hx)) (hr.2 k _ u e h2)⟩
  refine Calls.mono (h E1 w vs s1 r1) fun e w' hh => ?_
  obtain ⟨E', u, rfl, t1, t2, t3⟩ := hh
  have mE := Ext.more s1 t3
  have hI' : ∀ x, inPl p x → E'.I x := fun x hx => t3.I x ((I1 x).2 (.inr hx))
  have hnI : ∀ x, inPl p x → ¬ E.I x := fun x hx => hs.notI (hbH x hx)
  have m2 : More E w ⟨E'.f, fun x => E'.I x ∧ ¬ inPl p x⟩ w' := ⟨fun k q hk => t3.f k q (by rw [f1]; exact hk), fun x hx => ⟨t3.I x ((I1 x).2 (.inl hx)), fun h => hnI x h hx⟩, fun x hx => mE.mem x ((I1 x).2 (.inl hx))⟩
  have hpid : E'.f id = some p := t3.f id p (by rw [f1]; exact hp0)
  have hbL : ∀ x, Hb E1 (hp L) x → Hb E (hp ((id, o) :: L)) x := fun x ⟨k, y, c, z, h1, h2⟩ => ⟨k, y, c, z, (hin k y h1).2, by rw [← f1]; exact h2⟩
  have hno' : ∀ k x b c z, hp L' k = some x → E'.f k = some (.at_ b c z) → ¬ inPl p b := fun k x b c z hk hf hx => t1.notI ⟨k, x, c, z, hk, hf⟩ (hI' b hx)
  have hin' : ∀ k, k ≠ id → hp ((id, o) :: L') k = hp L' k := fun k hk => by rw [hcons, if_neg hk]
  have hme' : ∀ k x, hp ((id, o) :: L') k = some x → (k = id ∧ x = o) ∨ (k ≠ id ∧ hp L' k = some x) := fun k x hk => by
    by_cases e : k = id
    · subst e; rw [hcons, if_pos rfl] at hk; cases hk; exact .inl ⟨rfl, rfl⟩
    · rw [hin' k e] at hk; exact .inr ⟨e, hk⟩
  refine ⟨⟨E'.f, fun x => E'.I x ∧ ¬ inPl p x⟩, u, rfl, ⟨fun k x hk => ?_, fun k k' x x' b c z c' z' hk hk' hf hf' => ?_, t1.fresh, fun x hx => t1.imm x hx.1⟩, ?_, ?_⟩
  · rcases hme' k x hk with ⟨rfl, rfl⟩ | ⟨_, hk⟩
    · refine ⟨p, hpid, ?_⟩
      cases p with
      | nil => exact ro
      | at_ b c sz => exact ro.more m2 (fun h => h.2 rfl) (mE.mem b ((I1 b).2 (.inr rfl)))
    · obtain ⟨q, hq, r⟩ := t1.rows _ _ hk
      refine ⟨q, hq, ?_⟩
      cases q with
      | nil => exact r
      | at_ b c sz =>
        obtain ⟨h1, h2, h3, h4, h5, cur, fr, hg, hsz, hf, hcell⟩ := r
        refine ⟨h1, fun h => h2 h.1, h3, h4, h5, cur, fr, hg, hsz, hf, fun i hi j hj => ?_⟩
        obtain ⟨a, y, e1, e2, e3⟩ := hcell i hi j hj
        obtain ⟨y', rfl⟩ := hpl k x hk i j a e1
        exact ⟨_, y, e1, e2, by rw [e3.val_inv]; exact .val _⟩
  · rcases hme' k x hk with ⟨e1, _⟩ | ⟨_, hq⟩ <;> rcases hme' k' x' hk' with ⟨e2, _⟩ | ⟨_, hq'⟩
    · rw [e1, e2]
    · exfalso
      refine hno' k' x' b c' z' hq' hf' ?_
      rw [e1] at hf
      have : some p = some (.at_ b c z) := hpid.symm.trans hf
      cases this
      rfl
    · exfalso
      refine hno' k x b c z hq hf ?_
      rw [e2] at hf'
      have : some p = some (.at_ b c' z') := hpid.symm.trans hf'
      cases this
      rfl
    · exact t1.inj _ _ _ _ _ _ _ _ _ hq hq' hf hf'
  · rw [t2.val_inv]; exact .val _
  · refine ⟨m2.f, fun k q hk => ?_, m2.I, fun x hx => ?_, fun b h1 h2 => t3.fr b h1 fun h => h2 (hbL b h), fun b ⟨k, x, c, z, h1, h2⟩ => ?_, t3.size, t3.os, t3.tape, t3.output⟩
    · have := t3.nw k q hk
      rwa [f1] at this
    · rcases t3.I' x hx.1 with h | h | h
      · rcases (I1 x).1 h with h | h
        · exact .inl h
        · exact (hx.2 h).elim
      · exact .inr (.inl h)
      · exact .inr (.inr (hbL x h))
    · rcases hme' k x h1 with ⟨rfl, rfl⟩ | ⟨_, h1⟩
      · left
        have : some p = some (.at_ b c z) := hpid.symm.trans h2
        cases this
        exact ⟨k, x, c, z, hme, hp0⟩
      · rcases t3.hb b ⟨k, x, c, z, h1, h2⟩ with h | h
        · exact .inl (hbL b h)
        · exact .inr h

theorem Rep.view_congr {E : Env} {w : World} {sz n : Nat} {g g' : Nat → List AV} {u : Value} (h : ∀ i, i < n → g i = g' i) (r : Rep E w (.view sz n g) u) : Rep E w (.view sz n g') u := by
  cases r with
  | view cells hc hm hA hl hcell hr =>
    exact .view cells hc hm hA (fun i hi => by rw [← h i hi]; exact hl i hi) hcell (fun i j a hi ha => hr i j a hi (by rw [h i hi]; exact ha))

/-- arguments by another name -/
theorem ACall.args {P : Program} {g : FuncId} {xs xs' : List AV} {L L' : List (Nat × AObj)} {nx n1 : Nat} {v : AV} (h : ACall P g xs L nx v L' n1) (hlen : xs.length = xs'.length)
    (hr : ∀ E w (k : Nat) a a' u, xs[k]? = some a → xs'[k]? = some a' → Rep E w a' u → Rep E w a u) : ACall P g xs' L nx v L' n1 := by
  intro E w vs hs hreps
  refine h E w vs hs ⟨by rw [hreps.1, hlen], fun k a u h1 h2 => ?_⟩
  have hk : k < xs'.length := by rw [← hlen]; exact (List.getElem?_eq_some_iff.1 h1).1
  have e : xs'[k]? = some xs'[k] := List.getElem?_eq_getElem hk
  exact hr E w k a _ u h1 e (hreps.2 k _ u e h2)

theorem leaf_int {k : IntKind} {r : List AV} (h1 : r.length = 1) (h : ∀ (j : Nat) lf a, [Leaf.int k][j]? = some lf → r[j]? = some a → LeafOk lf a) : ∃ z : Int, (Lit.int k z).wf = true ∧ r = [.val (.int k z)] := by
  match r, h1 with
  | [a], _ =>
    have := h 0 _ a rfl rfl
    cases this with
    | int hw => exact ⟨_, hw, rfl⟩
theorem leaf_str {r : List AV} (h1 : r.length = 1) (h : ∀ (j : Nat) lf a, [Leaf.str][j]? = some lf → r[j]? = some a → LeafOk lf a) : ∃ s : ByteArray, s.size ≤ maxLen ∧ r = [.val (.string s)] := by
  match r, h1 with
  | [a], _ =>
    have := h 0 _ a rfl rfl
    cases this with
    | str hs => exact ⟨_, hs, rfl⟩
theorem leaf_bool {r : List AV} (h1 : r.length = 1) (h : ∀ (j : Nat) lf a, [Leaf.bool][j]? = some lf → r[j]? = some a → LeafOk lf a) : ∃ b : Bool, r = [.val (.bool b)] := by
  match r, h1 with
  | [a], _ =>
    have := h 0 _ a rfl rfl
    cases this with
    | bool b => exact ⟨b, rfl⟩

/-! ### rounds by number -/
theorem EvXL.upto {P : Program} {n0 : Nat} {c : Code} {f : Nat → St} {s : St} {ex : Ex} (n : Nat) (h : ∀ i, i < n → EvX P n0 c (f i) .normal (f (i + 1))) (hl : EvX P n0 c (f n) ex s) (hne : ex ≠ .normal) : EvXL P n0 c (f 0) ex s := by
  have : ∀ m i, i + m = n → EvXL P n0 c (f i) ex s := by
    intro m
    induction m with
    | zero =>
      intro i hi
      obtain rfl : i = n := by omega
      exact EvXL.last hl hne
    | succ m ih =>
      intro i hi
      exact EvXL.step (h i (by omega)) (ih (i + 1) (by omega))
  exact this n 0 (by omega)
end Go.Proofs.YtbpofglponmpnaaGreatDoor
