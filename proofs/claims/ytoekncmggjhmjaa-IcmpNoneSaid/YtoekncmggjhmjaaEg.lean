/- An engine for walks, seventh part: bytes that are read, texts, append. -/
import Derived.Test.YtoekncmggjhmjaaEf
namespace Go.Proofs.Ytoekncmggjhmjaa
open Go.RowKit

/-- is e the type of bytes? -/
def byteTB (P : Program) (e : TypeId) : Bool :=
  (match P.info? e with
    | some i => (match i.zero with | some (.int .u8 z) => z == 0 | _ => false) && i.size == 1 && i.bytes == 1
    | none => false) &&
  (match P.underlying e with | some (.int .u8) => true | _ => false)

theorem byteTB_ok {P : Program} {t e : TypeId} (h : byteTB P e = true) (ht : elemT P t = some e) : ByteTy P t e := by
  unfold byteTB at h
  simp only [Bool.and_eq_true] at h
  obtain ⟨h1, h2⟩ := h
  refine ⟨?_, ?_, ?_⟩
  · unfold elemT at ht
    split at ht
    · rename_i e' he
      injection ht with ht
      subst ht
      exact he
    · cases ht
  · split at h1
    · rename_i i hi
      simp only [Bool.and_eq_true, beq_iff_eq] at h1
      obtain ⟨⟨h3, h4⟩, h5⟩ := h1
      split at h3
      · rename_i z hz
        simp only [beq_iff_eq] at h3
        subst h3
        simp [hi, hz, h4, h5]
      · cases h3
    · cases h1
  · split at h2
    · rename_i he
      exact he
    · cases h2

section
variable {P : Program} {E : Env} {H : Heap} {w : World} {a : Act} {o : Oper} {nx rid : Nat} {tm : Nat → AV}

/-- the bytes that a slice holds now, and what must hold for it -/
def bytesOf (H : Heap) : AV → Option (List UInt8 × Prop)
  | .bytes xs => some (xs, True)
  | .sl id off n _ =>
    match H id with
    | some ob =>
      match ob.body with
      | .bytes ys => if ob.sz = 1 then some ((ys.drop off).take n, off + n ≤ ys.length) else none
      | _ => none
    | none => none
  | .csl id i j n _ =>
    match H id with
    | some ob =>
      match ob.body with
      | .rows l =>
        match l[i]? with
        | some e => some (((e.drop j).take n).map byteVal, j + n ≤ e.length ∧ e.length ≤ ob.sz ∧ ∀ x ∈ (e.drop j).take n, isByteAV x)
        | none => none
      | _ => none
    | none => none
  | .val (.slice none 0 0) => some ([], True)
  | _ => none

theorem rd_of {x : AV} {u : Value} {xs : List UInt8} {p : Prop} (s : Sat E nx H w) (h : bytesOf H x = some (xs, p)) (hp : p) (r : Rep E w x u) :
    ∃ A n c, u = .slice A n c ∧ Rd w 0 w.heap.size A n c xs := by
  unfold bytesOf at h
  split at h
  · simp only [Option.some.injEq, Prod.mk.injEq] at h
    obtain ⟨rfl, rfl⟩ := h
    cases r with
    | bytes hn hc hm hx =>
      refine ⟨_, _, _, rfl, hn, hc, hm, fun h0 => ?_⟩
      obtain ⟨g, o', e, hI, hcell⟩ := hx h0
      exact ⟨g, o', e, Nat.zero_le _, s.imm _ hI, hcell⟩
  · split at h
    · rename_i id off n lim _ ob hid
      split at h
      · rename_i ys hb
        split at h
        · rename_i hsz
          simp only [Option.some.injEq, Prod.mk.injEq] at h
          obtain ⟨rfl, rfl⟩ := h
          cases r with
          | slnil hE hl => exact ⟨_, _, _, rfl, by simpa using Rd.nil w 0 w.heap.size⟩
          | sl hE hc hl hn hA =>
            rename_i b c sz cap A
            have ro := s.at_ hid hE
            have h1 : sz = ob.sz := ro.1
            obtain rfl : sz = 1 := by omega
            refine ⟨_, _, _, rfl, by simp; omega, hn, by have := ro.2.2.2.1; omega, fun h0 => ?_⟩
            obtain rfl := hA.resolve_left (by omega)
            refine ⟨b, off * 1, rfl, Nat.zero_le _, s.lt hid hE, fun i y hy => ?_⟩
            rw [List.getElem?_take] at hy
            split at hy
            · rw [List.getElem?_drop] at hy
              obtain ⟨a', v, e1, e2, e3⟩ := ro.read (i := off + i) (j := 0) (by rw [hb]; exact (List.getElem?_eq_some_iff.1 hy).1) (by omega)
              rw [hb] at e1
              simp only [Body.cell?, if_true, hy, Option.map_some, Option.some.injEq] at e1
              subst e1
              have := e3.val_inv
              subst this
              simpa using e2
            · cases hy
        · cases h
      · cases h
    · cases h
  · split at h
    · rename_i id i j n c _ ob hid
      split at h
      · rename_i l hb
        split at h
        · rename_i e he
          simp only [Option.some.injEq, Prod.mk.injEq] at h
          obtain ⟨rfl, rfl⟩ := h
          obtain ⟨hp1, hp2, hp3⟩ := hp
          cases r with
          | csl hE hn hm =>
            rename_i b c' sz
            have ro := s.at_ hid hE
            have h1 : sz = ob.sz := ro.1
            refine ⟨_, _, _, rfl, by simp; omega, hn, hm, fun h0 => ⟨b, _, rfl, Nat.zero_le _, s.lt hid hE, fun k y hy => ?_⟩⟩
            · simp only [List.getElem?_map, Option.map_eq_some_iff] at hy
              obtain ⟨z, hz, rfl⟩ := hy
              have hzm := hp3 z (List.mem_of_getElem? hz)
              rw [List.getElem?_take] at hz
              split at hz
              · rw [List.getElem?_drop] at hz
                have hlt : j + k < e.length := (List.getElem?_eq_some_iff.1 hz).1
                obtain ⟨a', v, e1, e2, e3⟩ := ro.read (i := i) (j := j + k) (by rw [hb]; exact (List.getElem?_eq_some_iff.1 he).1) (by omega)
                rw [hb] at e1
                simp only [Body.cell?, he, Option.bind_some] at e1
                rw [hz] at e1
                injection e1 with e1
                subst e1
                rw [byteVal_eq hzm] at e3
                have := e3.val_inv
                subst this
                rw [← Nat.add_assoc] at e2
                exact e2
              · cases hz
        · cases h
      · cases h
    · cases h
  · simp only [Option.some.injEq, Prod.mk.injEq] at h
    obtain ⟨rfl, rfl⟩ := h
    have := r.val_inv
    subst this
    exact ⟨_, _, _, rfl, Rd.nil _ _ _⟩
  · cases h

theorem ok_string {x : Operand} {t e dst : TypeId} {xs : List UInt8} {p : Prop} (s : Sat E nx H w) (r : RepT E w tm a) (h : o.op = .convert t dst x) (ht : elemT P t = some e) (hb : byteTB P e = true) (hd : P.underlying dst = some .string)
    (hx : bytesOf H (avOf tm x) = some (xs, p)) (hp : p) : OpOk P o E H a w rid nx ⟨.val (.string ⟨xs.toArray⟩), [], nx⟩ := by
  obtain ⟨A, n, c, hu, hr⟩ := rd_of s hx hp (r.eval x)
  exact ok_val s (by simp [execOp, h, hu, run_conv w (byteTB_ok hb ht) hd hr]) (.val _)

/-- something lies anew in a row that was one of the objects', or in a new block -/
theorem sat_put {H0 : Heap} {w' : World} {nx' : Nat} (s0 : Sat E nx H0 w) (s : Sat E nx H w) (h0 : ∀ id o, H id = some o → H0 id = some o) (hr : E.f rid = none) (hnx : nx ≤ nx') (hrid : rid < nx') {row : Option Nat}
    (hrow : ∀ b, row = some b → Hb E H0 b ∧ ¬ Hb E H b) (hg : w.grownBy w' row) {p : Place} {ob : AObj} (hp : match p with
      | .nil => ob.body.len = 0 ∧ ob.exact = false
      | .at_ g c sz => sz = ob.sz ∧ (row = some g ∨ w.heap.size ≤ g) ∧ ob.body.len ≤ c ∧ c ≤ maxLen ∧ ob.exact = false ∧ ∃ cur, w'.heap[g]? = some (.cells cur ob.t (0, 0)) ∧ cur.size = c * sz ∧
          ∀ i, i < ob.body.len → ∀ j, j < sz → ∃ a v, ob.body.cell? i j = some a ∧ cur[i * sz + j]? = some v ∧ Rep E w a v) :
    Sat (E.put rid p) nx' (upd H rid (some ob)) w' ∧ Ext E H0 w (fun id => id = rid) (E.put rid p) (upd H rid (some ob)) w' := by
  have hnI : ∀ b, row = some b → ¬ E.I b := fun b hb => s0.notI (hrow b hb).1
  have hold : ∀ k, k < w.heap.size → row ≠ some k → w'.heap[k]? = w.heap[k]? := fun k hk hn => hg.block k hk fun e => hn e.symm
  have hI : ∀ b, E.I b → w'.heap[b]? = w.heap[b]? := fun b hb => hold b (s.imm b hb) fun e => hnI b e hb
  have m : More E w (E.put rid p) w' := ⟨Env.put_old _ hr, fun _ h => h, hI⟩
  have hgI : ∀ g c sz, p = .at_ g c sz → ¬ E.I g := by
    intro g c sz e hI'
    subst e
    rcases hp.2.1 with h | h
    · exact hnI g h hI'
    · have := s.imm g hI'; omega
  have key : ∀ k y b c1 z1, upd H rid (some ob) k = some y → (E.put rid p).f k = some (.at_ b c1 z1) → (k = rid ∧ p = .at_ b c1 z1) ∨ (k ≠ rid ∧ H k = some y ∧ E.f k = some (.at_ b c1 z1)) := by
    intro k y b c1 z1 hk hfk
    rcases Env.put_inv hfk with ⟨e, q⟩ | ⟨e, q⟩
    · exact .inl ⟨e, q.symm⟩
    · rw [upd_other _ _ e] at hk
      exact .inr ⟨e, hk, q⟩
  have apart : ∀ b c1 z1 k y c2 z2, p = .at_ b c1 z1 → H k = some y → E.f k = some (.at_ b c2 z2) → False := by
    intro b c1 z1 k y c2 z2 e hk hf
    subst e
    rcases hp.2.1 with h | h
    · exact (hrow b h).2 ⟨k, y, c2, z2, hk, hf⟩
    · have := s.lt hk hf; omega
  refine ⟨⟨fun id x h => ?_, fun id id' x x' b c1 z1 c2 z2 h h' hf hf' => ?_, fun id hid => ?_, fun b hb => Nat.lt_of_lt_of_le (s.imm b hb) hg.size⟩, ?_⟩
  · by_cases hid : id = rid
    · subst hid
      rw [upd_same] at h
      cases h
      refine ⟨p, Env.put_same _ _ _, ?_⟩
      cases p with
      | nil => exact hp
      | at_ g c sz =>
        obtain ⟨q1, q2, q3, q4, q5, cur, q6, q7, q8⟩ := hp
        refine ⟨q1, hgI g c sz rfl, q3, q4, (fun e => by rw [q5] at e; cases e), cur, (0, 0), q6, q7, .inl rfl, fun i hi j hj => ?_⟩
        obtain ⟨a', v, e1, e2, r⟩ := q8 i hi j hj
        exact ⟨a', v, e1, e2, r.more m⟩
    · rw [upd_other _ _ hid] at h
      obtain ⟨q, hq, r⟩ := s.rows _ _ h
      refine ⟨q, m.f _ _ hq, ?_⟩
      cases q with
      | nil => exact r
      | at_ b c1 z1 => exact r.more m r.2.1 (hold b (s.lt h hq) fun e => (hrow b e).2 ⟨id, x, c1, z1, h, hq⟩)
  · rcases key _ _ _ _ _ h hf with ⟨e1, e2⟩ | ⟨e1, e2, e3⟩ <;> rcases key _ _ _ _ _ h' hf' with ⟨d1, d2⟩ | ⟨d1, d2, d3⟩
    · rw [e1, d1]
    · exact (apart _ _ _ _ _ _ _ e2 d2 d3).elim
    · exact (apart _ _ _ _ _ _ _ d2 e2 e3).elim
    · exact s.inj _ _ _ _ _ _ _ _ _ e2 d2 e3 d3
  · simp only [Env.put]
    rw [if_neg (by omega)]
    exact s.fresh id (by omega)
  · refine ⟨m.f, fun id q h => ?_, fun _ h => h, fun _ h => .inl h, fun b hb hn => hold b hb fun e => hn (hrow b e).1, ?_, hg.size, hg.os, hg.tape, hg.output⟩
    · rcases Env.put_inv h with ⟨e, _⟩ | ⟨_, q⟩
      · exact .inr e
      · exact .inl q
    · rintro b ⟨id, x, c1, z1, h, hf⟩
      rcases key _ _ _ _ _ h hf with ⟨_, e⟩ | ⟨_, h1, h2⟩
      · subst e
        rcases hp.2.1 with h | h
        · exact .inl (hrow b h).1
        · exact .inr h
      · exact .inl ⟨id, x, c1, z1, h0 _ _ h1, h2⟩

/-- bytes that are marked as a text's own -/
theorem ok_mark {x : Operand} {t e : TypeId} {id off n : Nat} {lim : Option Nat} {ob : AObj} (s : Sat E nx H w) (r : RepT E w tm a) (h : o.op = .convert t t x) (ht : elemT P t = some e) (hb : byteTB P e = true)
    (hx : avOf tm x = .sl id off n lim) (hid : H id = some ob) (hl : 0 < n) : OpOk P o E H a w rid nx ⟨.sl id off n lim, [(id, some { ob with fz := true })], nx⟩ := by
  have rx := r.eval x
  rw [hx] at rx
  generalize hu : a.eval x = u at rx
  cases rx with
  | slnil => omega
  | sl hE hc hlc hn hA =>
    rename_i b c sz cap A
    have ro := s.at_ hid hE
    obtain ⟨h1, h2, h3, h4, h5, cur, fr, hg, hs, hfr, hcell⟩ := ro
    obtain rfl := hA.resolve_left (by omega)
    have hT := byteTB_ok hb ht
    have hw : ∃ fr', (w.freeze ⟨b, cur.size, none⟩ 1).heap[b]? = some (.cells cur ob.t fr') ∧ c * sz ≤ fr'.1 := by
      obtain ⟨lo, hi⟩ := fr
      by_cases e : lo = hi
      · refine ⟨(cur.size, cur.size + 1), by simp [World.freeze, Array.getElem?_modify, hg, e], by simp [hs]⟩
      · refine ⟨(min lo cur.size, max hi (cur.size + 1)), by simp [World.freeze, Array.getElem?_modify, hg, e], ?_⟩
        rcases hfr with hf | ⟨_, hf⟩
        · exact absurd (by injection hf with g1 g2; rw [g1, g2]) e
        · simp only at hf ⊢
          omega
    obtain ⟨fr', hg', hf'⟩ := hw
    have hset := sat_set (w' := w.freeze ⟨b, cur.size, none⟩ 1) (N := fun id => id = rid ∨ nx ≤ id) (o' := { ob with fz := true }) s hid hE hg' (fun k hk => by
        simp only [World.freeze, Nat.one_ne_zero, if_false, Array.getElem?_modify]
        rw [if_neg (by omega)]) (by simp [World.freeze]) ⟨by simp [World.freeze], by simp [World.freeze], by simp [World.freeze]⟩ h1 hs h3 h5 (.inr ⟨rfl, hf'⟩) hcell
    refine .value E _ _ ?_ ⟨hset.1, .sl hE hc hlc hn (.inr rfl), hset.2, Nat.le_refl _⟩
    have hsh : (shape b).run P w = .ok (some (ob.t, cur.size)) w := by
      simp [shape, Sem.run, World.shape?, hg]
    have hfz : (freeze ⟨b, cur.size, none⟩ 1).run P w = .ok () (w.freeze ⟨b, cur.size, none⟩ 1) := rfl
    simp [execOp, h, hu, convert, run_underlying hT.ht, run_underlying hT.hb, markStringish, hsh, hfz]

/-! ### append of bytes -/
def objApp (t : TypeId) (xs : List UInt8) : AObj := ⟨t, 1, false, false, .bytes xs⟩

theorem append_bytes {H0 : Heap} {A : Option Addr} {n c : Nat} {ys : List UInt8} {t ty e : TypeId} {A1 : Option Addr} {m c1 : Nat} {xs : List UInt8} {nx' : Nat} (s0 : Sat E nx H0 w) (s : Sat E nx H w) (h0 : ∀ id o, H id = some o → H0 id = some o)
    (hr : E.f rid = none) (hnx : nx ≤ nx') (hrid : rid < nx') (T : ByteTy P t e) (hown : Own w 0 e A n c ys) (hrow : ∀ b, (Value.slice A n c).ownBlock = some b → Hb E H0 b ∧ ¬ Hb E H b)
    (hrd : Rd w 0 w.heap.size A1 m c1 xs) (h63 : ys.length + xs.length ≤ 1000000000) :
    ∃ E' w' u, (Builtin.append_ #[t, t] ty #[.slice A n c, .slice A1 m c1]).run P w = .ok u w' ∧ Sat E' nx' (upd H rid (some (objApp e (ys ++ xs)))) w' ∧
      Rep E' w' (.sl rid 0 (ys.length + xs.length) none) u ∧ Ext E H0 w (fun id => id = rid) E' (upd H rid (some (objApp e (ys ++ xs)))) w' := by
  have hnl := hown.1
  have hml := hrd.len
  subst hnl
  subst hml
  obtain ⟨A', c', w', hrun, hown', hgr, hat⟩ := run_appB (P := P) w T ty 0 A ys.length c ys hown 0 w.heap.size A1 xs.length c1 xs hrd h63 (Nat.zero_le _)
  rcases hown'.2.2 with ⟨hv, hn0⟩ | ⟨g, cap, cur, hv, _, hgg, hnc, hm, hs, ht⟩
  · injection hv with v1 v2 v3
    subst v1 v3
    have := sat_put (p := .nil) (ob := objApp e (ys ++ xs)) s0 s h0 hr hnx hrid hrow hgr ⟨by simp only [objApp, Body.len, List.length_append]; exact hn0, rfl⟩
    refine ⟨_, w', _, hrun, this.1, ?_, this.2⟩
    rw [v2]
    exact .slnil (Env.put_same _ _ _) rfl
  · injection hv with v1 v2 v3
    subst v1 v3
    have hrow' : (Value.slice A ys.length c).ownBlock = some g ∨ w.heap.size ≤ g := by
      rcases hat with hat | hat
      · left; rw [← hat]; rfl
      · right; simp [Value.ownBlock] at hat; omega
    have := sat_put (p := .at_ g c' 1) (ob := objApp e (ys ++ xs)) s0 s h0 hr hnx hrid hrow hgr ⟨rfl, hrow', by simp [objApp, Body.len]; omega, hm, rfl, cur, hgg, by omega, fun i hi j hj => by
      obtain rfl : j = 0 := by omega
      simp only [objApp, Body.len] at hi
      refine ⟨.val (bv (ys ++ xs)[i]), bv (ys ++ xs)[i], by simp only [objApp, Body.cell?, if_true, List.getElem?_eq_getElem hi, Option.map_some], ?_, .val _⟩
      have h1 : (cur.toList.take ((ys.length + xs.length) * 1))[i]? = some (bv (ys ++ xs)[i]) := by
        rw [ht, List.getElem?_map, List.getElem?_eq_getElem hi]
        rfl
      rw [List.getElem?_take] at h1
      split at h1
      · simpa using h1
      · cases h1⟩
    refine ⟨_, w', _, hrun, this.1, ?_, this.2⟩
    exact .sl (cap := c') (b := g) (c := c') (sz := 1) (Env.put_same _ _ _) rfl (Nat.le_refl _) hnc (.inr (by simp))

theorem append_run {x y : Operand} {t : TypeId} {u v : Value} (h : o.op = .call { callee := .builtin .append, args := #[x, y], argTypes := #[t, t] }) {w' : World} {r : Value} (hx : a.eval x = u) (hy : a.eval y = v)
    (hr : (Builtin.append_ #[t, t] o.type #[u, v]).run P w = .ok r w') : (execOp a.eval o).run P w = .ok (.value r) w' := by
  simp [execOp, h, resolve, invoke, builtin, hx, hy, hr]

theorem ok_appendSl {x y : Operand} {t e : TypeId} {id n : Nat} {ob : AObj} {ys xs : List UInt8} {p : Prop} {nx' : Nat} (s : Sat E nx H w) (r : RepT E w tm a) (hr : E.f rid = none) (hnx : nx ≤ nx') (hrid : rid < nx') (h : o.op = .call { callee := .builtin .append, args := #[x, y], argTypes := #[t, t] })
    (ht : elemT P t = some e) (hb : byteTB P e = true) (hx : avOf tm x = .sl id 0 n none) (hid : H id = some ob) (hob : ob.body = .bytes ys) (hsz : ob.sz = 1) (hfz : ob.fz = false) (hot : ob.t = e) (hn : ys.length = n)
    (hy : bytesOf H (avOf tm y) = some (xs, p)) (hp : p) (h63 : ys.length + xs.length ≤ 1000000000) :
    OpOk P o E H a w rid nx ⟨.sl rid 0 (ys.length + xs.length) none, [(id, none), (rid, some (objApp e (ys ++ xs)))], nx'⟩ := by
  obtain ⟨A1, m, c1, hv, hrd⟩ := rd_of s hy hp (r.eval y)
  have rx := r.eval x
  rw [hx] at rx
  generalize hu : a.eval x = u at rx
  have s1 : Sat E nx (upd H id none) w := s.sub fun k q hk => by
    by_cases e : k = id
    · subst e; rw [upd_same] at hk; cases hk
    · rwa [upd_other _ _ e] at hk
  have h0 : ∀ k q, upd H id none k = some q → H k = some q := fun k q hk => by
    by_cases e : k = id
    · subst e; rw [upd_same] at hk; cases hk
    · rwa [upd_other _ _ e] at hk
  have fin : ∀ A c, u = .slice A n c → Own w 0 e A n c ys → (∀ b, (Value.slice A n c).ownBlock = some b → Hb E H b ∧ ¬ Hb E (upd H id none) b) →
      OpOk P o E H a w rid nx ⟨.sl rid 0 (ys.length + xs.length) none, [(id, none), (rid, some (objApp e (ys ++ xs)))], nx'⟩ := by
    intro A c hA hown hrow
    subst hA
    obtain ⟨E', w', u', h1, h2, h3, h4⟩ := append_bytes (ty := o.type) s s1 h0 hr hnx hrid (byteTB_ok hb ht) hown hrow hrd h63
    exact .value E' w' u' (append_run h hu hv h1) ⟨h2, h3, h4.weaken fun id e => .inl e, hnx⟩
  cases rx with
  | slnil hE hl =>
    have : ys = [] := List.eq_nil_of_length_eq_zero hn
    subst this
    exact fin none 0 rfl (Own.none_ w 0 e) (fun b hb => by simp [Value.ownBlock] at hb)
  | sl hE hc hl hn' hA =>
    rename_i b c sz cap A
    have ro := s.at_ hid hE
    have h1 : sz = ob.sz := ro.1
    obtain rfl : sz = 1 := by omega
    simp only [Option.getD_none, Nat.add_zero] at hc
    subst hc
    obtain rfl := hA.resolve_left (by omega)
    simp only [Nat.zero_mul] at fin ⊢
    obtain ⟨_, _, hlen, hmx, _, cur, fr, hg, hs, hfr, hcell⟩ := ro
    have hfr0 : fr = (0, 0) := hfr.resolve_right fun h => by rw [hfz] at h; cases h.1
    subst hfr0
    rw [hot] at hg
    refine fin (some ⟨b, 0, none⟩) cap (by simp) ⟨hn, by simp [hn], .inr ⟨b, cap, cur, rfl, Nat.zero_le _, hg, hn', hmx, by omega, ?_⟩⟩ (fun b' hb' => ?_)
    · apply List.ext_getElem?
      intro k
      rw [List.getElem?_take]
      by_cases hk : k < n
      · have hk' : k < ob.body.len := by rw [hob]; simp only [Body.len]; omega
        obtain ⟨a', v, e1, e2, e3⟩ := hcell k hk' 0 (by omega)
        rw [hob] at e1
        have hky : k < ys.length := by omega
        simp only [Body.cell?, if_true, List.getElem?_eq_getElem hky, Option.map_some, Option.some.injEq] at e1
        subst e1
        have := e3.val_inv
        subst this
        simp only [Nat.mul_one, Nat.add_zero] at e2
        simp [hk, hky, e2]
      · rw [if_neg (by omega), List.getElem?_eq_none (by simp; omega)]
    · simp only [Value.ownBlock, Option.some.injEq] at hb'
      subst hb'
      refine ⟨⟨id, ob, cap, 1, hid, hE⟩, ?_⟩
      rintro ⟨k, q, c2, z2, hk, hf⟩
      have hne : k ≠ id := fun e => by subst e; rw [upd_same] at hk; cases hk
      rw [upd_other _ _ hne] at hk
      exact hne (s.inj _ _ _ _ _ _ _ _ _ hk hid hf hE)

theorem ok_appendPre {x y : Operand} {t e : TypeId} {id n : Nat} {ob : AObj} {ys xs : List UInt8} {p : Prop} {nx' : Nat} (s : Sat E nx H w) (r : RepT E w tm a) (hr : E.f rid = none) (hnx : nx ≤ nx') (hrid : rid < nx') (h : o.op = .call { callee := .builtin .append, args := #[x, y], argTypes := #[t, t] })
    (ht : elemT P t = some e) (hb : byteTB P e = true) (hx : avOf tm x = .sl id 0 n none) (hid : H id = some ob) (hob : ob.body = .bytes ys) (hsz : ob.sz = 1) (hfz : ob.fz = false) (hot : ob.t = e) (hn : n ≤ ys.length)
    (hy : bytesOf H (avOf tm y) = some (xs, p)) (hp : p) (h63 : n + xs.length ≤ 1000000000) :
    OpOk P o E H a w rid nx ⟨.sl rid 0 (n + xs.length) none, [(id, none), (rid, some (objApp e (ys.take n ++ xs)))], nx'⟩ := by
  obtain ⟨A1, m, c1, hv, hrd⟩ := rd_of s hy hp (r.eval y)
  have rx := r.eval x
  rw [hx] at rx
  generalize hu : a.eval x = u at rx
  have s1 : Sat E nx (upd H id none) w := s.sub fun k q hk => by
    by_cases e : k = id
    · subst e; rw [upd_same] at hk; cases hk
    · rwa [upd_other _ _ e] at hk
  have h0 : ∀ k q, upd H id none k = some q → H k = some q := fun k q hk => by
    by_cases e : k = id
    · subst e; rw [upd_same] at hk; cases hk
    · rwa [upd_other _ _ e] at hk
  have fin : ∀ A c, u = .slice A n c → Own w 0 e A n c (ys.take n) → (∀ b, (Value.slice A n c).ownBlock = some b → Hb E H b ∧ ¬ Hb E (upd H id none) b) →
      OpOk P o E H a w rid nx ⟨.sl rid 0 (n + xs.length) none, [(id, none), (rid, some (objApp e (ys.take n ++ xs)))], nx'⟩ := by
    intro A c hA hown hrow
    subst hA
    obtain ⟨E', w', u', h1, h2, h3, h4⟩ := append_bytes (ty := o.type) s s1 h0 hr hnx hrid (byteTB_ok hb ht) hown hrow hrd (by rw [List.length_take, Nat.min_eq_left hn]; exact h63)
    rw [List.length_take, Nat.min_eq_left hn] at h3
    exact .value E' w' u' (append_run h hu hv h1) ⟨h2, h3, h4.weaken fun id e => .inl e, hnx⟩
  cases rx with
  | slnil hE hl =>
    rw [List.take_zero] at fin
    exact fin none 0 rfl (Own.none_ w 0 e) (fun b hb => by simp [Value.ownBlock] at hb)
  | sl hE hc hl hn' hA =>
    rename_i b c sz cap A
    have ro := s.at_ hid hE
    have h1 : sz = ob.sz := ro.1
    obtain rfl : sz = 1 := by omega
    simp only [Option.getD_none, Nat.add_zero] at hc
    subst hc
    obtain rfl := hA.resolve_left (by omega)
    simp only [Nat.zero_mul] at fin ⊢
    obtain ⟨_, _, hlen, hmx, _, cur, fr, hg, hs, hfr, hcell⟩ := ro
    have hfr0 : fr = (0, 0) := hfr.resolve_right fun h => by rw [hfz] at h; cases h.1
    subst hfr0
    rw [hot] at hg
    refine fin (some ⟨b, 0, none⟩) cap (by simp) ⟨by rw [List.length_take, Nat.min_eq_left hn], by simp [hn], .inr ⟨b, cap, cur, rfl, Nat.zero_le _, hg, hn', hmx, by omega, ?_⟩⟩ (fun b' hb' => ?_)
    · apply List.ext_getElem?
      intro k
      rw [List.getElem?_take]
      by_cases hk : k < n
      · have hk' : k < ob.body.len := by rw [hob]; simp only [Body.len]; omega
        obtain ⟨a', v, e1, e2, e3⟩ := hcell k hk' 0 (by omega)
        rw [hob] at e1
        have hky : k < ys.length := by omega
        simp only [Body.cell?, if_true, List.getElem?_eq_getElem hky, Option.map_some, Option.some.injEq] at e1
        subst e1
        have := e3.val_inv
        subst this
        simp only [Nat.mul_one, Nat.add_zero] at e2
        simp [hk, hky, e2]
      · rw [if_neg (by omega), List.getElem?_eq_none (by simp; omega)]
    · simp only [Value.ownBlock, Option.some.injEq] at hb'
      subst hb'
      refine ⟨⟨id, ob, cap, 1, hid, hE⟩, ?_⟩
      rintro ⟨k, q, c2, z2, hk, hf⟩
      have hne : k ≠ id := fun e => by subst e; rw [upd_same] at hk; cases hk
      rw [upd_other _ _ hne] at hk
      exact hne (s.inj _ _ _ _ _ _ _ _ _ hk hid hf hE)

theorem ok_appendNil {x y : Operand} {t e : TypeId} {xs : List UInt8} {p : Prop} {nx' : Nat} (s : Sat E nx H w) (r : RepT E w tm a) (hr : E.f rid = none) (hnx : nx ≤ nx') (hrid : rid < nx') (h : o.op = .call { callee := .builtin .append, args := #[x, y], argTypes := #[t, t] })
    (ht : elemT P t = some e) (hb : byteTB P e = true) (hx : avOf tm x = .val (.slice none 0 0)) (hy : bytesOf H (avOf tm y) = some (xs, p)) (hp : p) (h63 : xs.length ≤ 1000000000) :
    OpOk P o E H a w rid nx ⟨.sl rid 0 xs.length none, [(rid, some (objApp e xs))], nx'⟩ := by
  obtain ⟨A1, m, c1, hv, hrd⟩ := rd_of s hy hp (r.eval y)
  obtain ⟨E', w', u', h1, h2, h3, h4⟩ := append_bytes (ty := o.type) s s (fun _ _ h => h) hr hnx hrid (byteTB_ok hb ht) (Own.none_ w 0 e) (fun b hb => by simp [Value.ownBlock] at hb) hrd (by simpa using h63)
  simp only [List.nil_append, List.length_nil, Nat.zero_add] at h2 h3 h4
  exact .value E' w' u' (append_run h (eval_val r hx) hv h1) ⟨h2, h3, h4.weaken fun id e => .inl e, hnx⟩
end
end Go.Proofs.Ytoekncmggjhmjaa
