/- Several texts in one: Er, Ew, Est, Ezr. -/
import Derived.Test.YtfofhpkafhpicaaGreatDoorMee
import Derived.Laws.StructEq
import Derived.ChangeKeysEq
import Derived.Lib.AppendStr
import Derived.Laws.IdiomStrings
import Derived.Lib.AppendZerosOnto
import Derived.Lib.AppendZeros

/- An engine for walks: slices of structs that grow, that are cleared; functions that are handed on; pointers against nil. -/
namespace Go.Proofs.YtfofhpkafhpicaaGreatDoor
open Go.RowKit

section
variable {P : Program} {E : Env} {H : Heap} {w : World} {a : Act} {o : Oper} {nx rid : Nat} {tm : Nat → AV}

theorem ok_makeFunc {fn : Fn} {caps : Array Operand} {l : List AV} (s : Sat E nx H w) (r : RepT E w tm a) (h : o.op = .makeFunc fn #[] caps) (hl : caps.toList.map (avOf tm) = l) : OpOk P o E H a w rid nx ⟨.fn fn l, [], nx⟩ := by
  refine ok_val (u := .func fn #[] (caps.map a.eval)) s (by simp [execOp, h, Instr.makeFunc]) ?_
  subst hl
  refine .fn (by simp) fun k b v h1 h2 => ?_
  simp only [List.getElem?_map, Option.map_eq_some_iff, Array.getElem?_toList] at h1
  obtain ⟨y, hy, rfl⟩ := h1
  simp [hy] at h2
  subst h2
  exact r.eval y

/-- a pointer, or a slice that holds something, is not nil -/
def notNil (tm : Nat → AV) (x : Operand) : Bool :=
  match avOf tm x with
  | .ptr _ _ _ => true
  | .sl _ _ n _ => decide (0 < n)
  | .csl _ _ _ _ _ => true
  | _ => false
def isNilV (tm : Nat → AV) (x : Operand) : Bool :=
  match avOf tm x with
  | .val (.pointer none) => true
  | .val (.slice none 0 0) => true
  | _ => false

theorem notNil_ok {x : Operand} (r : RepT E w tm a) (h : notNil tm x = true) : (∃ p, a.eval x = .pointer (some p)) ∨ ∃ p n c, a.eval x = .slice (some p) n c := by
  unfold notNil at h
  have rx := r.eval x
  split at h
  · rename_i id i j hx
    rw [hx] at rx
    generalize a.eval x = u at rx
    cases rx with
    | ptr => exact .inl ⟨_, rfl⟩
  · rename_i id off n lim hx
    rw [hx] at rx
    generalize a.eval x = u at rx
    have h0 : 0 < n := by simpa using h
    cases rx with
    | slnil => omega
    | sl hE hc hl hn hA =>
      obtain rfl := hA.resolve_left (by omega)
      exact .inr ⟨_, _, _, rfl⟩
  · rename_i id i j n c hx
    rw [hx] at rx
    generalize a.eval x = u at rx
    cases rx with
    | csl => exact .inr ⟨_, _, _, rfl⟩
  · cases h

theorem isNilV_ok {x : Operand} (r : RepT E w tm a) (h : isNilV tm x = true) : a.eval x = .pointer none ∨ a.eval x = .slice none 0 0 := by
  unfold isNilV at h
  split at h
  · rename_i hx; exact .inl (eval_val r hx)
  · rename_i hx; exact .inr (eval_val r hx)
  · cases h

/-- may a value of this type be nil? -/
def nilT (P : Program) (t : TypeId) : Nat :=
  match P.underlying t with
  | some (.pointer _) => 1
  | some (.slice _) => 2
  | _ => 0

theorem equal_nil {t : TypeId} {u v : Value} (w : World) (h : (nilT P t = 1 ∧ ((∃ p, u = .pointer (some p) ∧ v = .pointer none) ∨ ∃ p, u = .pointer none ∧ v = .pointer (some p))) ∨
    (nilT P t = 2 ∧ ((∃ p n c, u = .slice (some p) n c ∧ v = .slice none 0 0) ∨ ∃ p n c, u = .slice none 0 0 ∧ v = .slice (some p) n c))) : (Op.equal t u v).run P w = .ok false w := by
  unfold nilT at h
  split at h
  · rename_i e he
    rcases h with ⟨_, h⟩ | ⟨h, _⟩
    · rcases h with ⟨p, rfl, rfl⟩ | ⟨p, rfl, rfl⟩ <;> exact (fun d => by rw [Op.equalIn]; simp [run_underlying he] : ∀ d, (Op.equalIn (d + 1) t _ _).run P w = .ok false w) 9999
    · cases h
  · rename_i e he
    rcases h with ⟨h, _⟩ | ⟨_, h⟩
    · cases h
    · rcases h with ⟨p, n, c, rfl, rfl⟩ | ⟨p, n, c, rfl, rfl⟩ <;> exact (fun d => by rw [Op.equalIn]; simp [run_underlying he] : ∀ d, (Op.equalIn (d + 1) t _ _).run P w = .ok false w) 9999
  · rcases h with ⟨h, _⟩ | ⟨h, _⟩ <;> cases h

theorem elemT_under {t e : TypeId} (ht : elemT P t = some e) : P.underlying t = some (.slice e) := by
  unfold elemT at ht
  split at ht
  · rename_i e' he
    injection ht with ht
    subst ht
    exact he
  · cases ht

/-! ### rows of structs that are read -/
theorem rows_src {id off n : Nat} {lim : Option Nat} {ob : AObj} {l : List (List AV)} {u : Value} (s : Sat E nx H w) (hid : H id = some ob) (hb : ob.body = .rows l) (hx : Rep E w (.sl id off n lim) u) (hn : 0 < n) (hle : off + n ≤ l.length) :
    ∃ (p : Addr) (c : Nat) (news : List Value), u = .slice (some p) n c ∧ news.length = n * ob.sz ∧ (∀ (j : Nat) v, news[j]? = some v → w.cell? (p.add j) = some v) ∧
      ∀ i j, i < n → j < ob.sz → ∃ x v, (l[off + i]?).bind (·[j]?) = some x ∧ news[i * ob.sz + j]? = some v ∧ Rep E w x v := by
  cases hx with
  | slnil => omega
  | sl hE hc hl hn' hA =>
    rename_i b c sz cap A
    have ro := s.at_ hid hE
    have hsz : sz = ob.sz := ro.1
    subst hsz
    obtain rfl := hA.resolve_left (by omega)
    have cell : ∀ i j, i < n → j < ob.sz → ∃ x v, (l[off + i]?).bind (·[j]?) = some x ∧ w.cell? ⟨b, off * ob.sz + (i * ob.sz + j), none⟩ = some v ∧ Rep E w x v := fun i j hi hj => by
      obtain ⟨x, v, e1, e2, e3⟩ := ro.read (i := off + i) (j := j) (by rw [hb]; simp only [Body.len]; omega) hj
      rw [hb] at e1
      refine ⟨x, v, e1, ?_, e3⟩
      rw [Nat.add_mul, Nat.add_assoc] at e2
      exact e2
    have flat : ∀ k, k < n * ob.sz → ∃ v, w.cell? ⟨b, off * ob.sz + k, none⟩ = some v := fun k hk => by
      have hsz : 0 < ob.sz := by
        rcases Nat.eq_zero_or_pos ob.sz with h | h
        · rw [h] at hk; simp at hk
        · exact h
      obtain ⟨x, v, _, e2, _⟩ := cell (k / ob.sz) (k % ob.sz) ((Nat.div_lt_iff_lt_mul hsz).2 hk) (Nat.mod_lt _ hsz)
      rw [Nat.mul_comm (k / ob.sz), Nat.div_add_mod] at e2
      exact ⟨v, e2⟩
    refine ⟨⟨b, off * ob.sz, none⟩, cap, (List.range (n * ob.sz)).map fun k => (w.cell? ⟨b, off * ob.sz + k, none⟩).getD undef, rfl, by simp, fun j v hv => ?_, fun i j hi hj => ?_⟩
    · have hj : j < n * ob.sz := by have := (List.getElem?_eq_some_iff.1 hv).1; simpa using this
      obtain ⟨v', hv'⟩ := flat j hj
      simp [hj, hv'] at hv
      subst hv
      rw [add_spot]
      exact hv'
    · obtain ⟨x, v, e1, e2, e3⟩ := cell i j hi hj
      have hlt : i * ob.sz + j < n * ob.sz := flat_lt hj hi
      exact ⟨x, v, e1, by simp [hlt, e2], e3⟩

/-- elements put over others -/
def over (l : List (List AV)) (n : Nat) (src : List (List AV)) : List (List AV) := l.take n ++ src ++ l.drop (n + src.length)

theorem over_get (l : List (List AV)) (n : Nat) (src : List (List AV)) (h : n + src.length ≤ l.length) (k : Nat) : (over l n src)[k]? = if n ≤ k ∧ k < n + src.length then src[k - n]? else l[k]? := by
  unfold over
  have hlen : (l.take n).length = n := by simp; omega
  by_cases h1 : k < n
  · rw [if_neg (by omega), List.append_assoc, List.getElem?_append_left (by omega), List.getElem?_take, if_pos h1]
  · by_cases h2 : k < n + src.length
    · rw [if_pos (by omega), List.append_assoc, List.getElem?_append_right (by omega), hlen, List.getElem?_append_left (by omega)]
    · rw [if_neg (by omega), List.getElem?_append_right (by simp; omega), List.getElem?_drop]
      congr 1
      simp
      omega

theorem over_len (l : List (List AV)) (n : Nat) (src : List (List AV)) (h : n + src.length ≤ l.length) : (over l n src).length = l.length := by simp [over]; omega

/-- all cells of these elements fill one cell each, and each element has so many -/
def onesOk (sz : Nat) (l : List (List AV)) : Bool := l.all fun e => e.length == sz && e.all AV.one

theorem onesOk_ok {sz : Nat} {l : List (List AV)} (h : onesOk sz l = true) {i j : Nat} {x : AV} (hx : (l[i]?).bind (·[j]?) = some x) : x.one = true := by
  obtain ⟨e, h1, h2⟩ := Option.bind_eq_some_iff.1 hx
  have := List.all_eq_true.1 h e (List.mem_of_getElem? h1)
  simp only [Bool.and_eq_true] at this
  exact List.all_eq_true.1 this.2 x (List.mem_of_getElem? h2)

/-- append where there is room for it -/
theorem ok_appendIn {x y : Operand} {t e : TypeId} {id n id2 off2 m : Nat} {lim2 : Option Nat} {ob ob2 : AObj} {l l2 : List (List AV)} {sz : Nat} (s : Sat E nx H w) (r : RepT E w tm a) (h : o.op = .call { callee := .builtin .append, args := #[x, y], argTypes := #[t, t] })
    (ht : elemT P t = some e) (hs : szT P e = some sz) (hx : avOf tm x = .sl id 0 n none) (hid : H id = some ob) (hob : ob.body = .rows l) (hsz : ob.sz = sz) (hot : ob.t = e) (hfz : ob.fz = false)
    (hy : avOf tm y = .sl id2 off2 m lim2) (hid2 : H id2 = some ob2) (hob2 : ob2.body = .rows l2) (hsz2 : ob2.sz = sz) (hm : 0 < m) (hle2 : off2 + m ≤ l2.length) (hfit : n + m ≤ l.length) (hones : onesOk sz ((l2.drop off2).take m) = true) :
    OpOk P o E H a w rid nx ⟨.sl id 0 (n + m) none, [(id, some { ob with body := .rows (over l n ((l2.drop off2).take m)) })], nx⟩ := by
  have ry := r.eval y
  rw [hy] at ry
  obtain ⟨p, c2, news, hv, hnl, hnews, hsrc⟩ := rows_src s hid2 hob2 ry hm hle2
  rw [hsz2] at hnl hsrc
  have rx := r.eval x
  rw [hx] at rx
  generalize hu : a.eval x = u at rx
  cases rx with
  | slnil hE hl =>
    obtain ⟨q, hq, rr⟩ := s.rows _ _ hid
    rw [hE] at hq; cases hq
    have := rr.1
    rw [hob] at this
    simp only [Body.len] at this
    omega
  | sl hE hc hl hn' hA =>
    rename_i b c sz' cap A
    have ro := s.at_ hid hE
    have hsz' : sz' = sz := by rw [← hsz]; exact ro.1
    subst hsz'
    obtain ⟨h1, _, hlc, hmx, hex, cur, fr, hg, hcs, hfr, hcell⟩ := ro
    simp only [Option.getD_none, Nat.add_zero] at hc
    subst hc
    have hfr0 : fr = (0, 0) := hfr.resolve_right fun h => by rw [hfz] at h; cases h.1
    subst hfr0
    rw [hob] at hlc
    simp only [Body.len] at hlc
    obtain rfl := hA.resolve_left (by omega)
    simp only [Nat.zero_mul] at hu
    obtain ⟨i, hi, hi2⟩ := Option.map_eq_some_iff.1 hs
    rw [hot] at hg
    have one : ∀ u ∈ news, u.oneCell' = true := by
      intro u hu'
      obtain ⟨k, hk, rfl⟩ := List.getElem_of_mem hu'
      have hpos : 0 < sz' := by
        rcases Nat.eq_zero_or_pos sz' with h | h
        · subst h; simp at hnl; subst hnl; simp at hk
        · exact h
      obtain ⟨x', v', e1, e2, e3⟩ := hsrc (k / sz') (k % sz') ((Nat.div_lt_iff_lt_mul hpos).2 (by omega)) (Nat.mod_lt _ hpos)
      rw [Nat.mul_comm (k / sz'), Nat.div_add_mod] at e2
      have : news[k] = v' := by
        have := List.getElem?_eq_getElem hk
        rw [this] at e2
        injection e2
      rw [this]
      refine e3.one (onesOk_ok hones (i := k / sz') (j := k % sz') ?_)
      rw [List.getElem?_take, if_pos ((Nat.div_lt_iff_lt_mul hpos).2 (by omega)), List.getElem?_drop]
      exact e1
    have hfit' : n * i.size + news.length ≤ cur.size := by
      rw [hi2, hnl, hcs, ← Nat.add_mul]
      exact Nat.mul_le_mul_right _ (by omega)
    have hrun := run_append_room (P := P) w t o.type e i (elemT_under ht) hi b n cap cur hg p m c2 news (by rw [hi2]; exact hnl) hnews one (by omega) hfit'
    rw [hi2] at hrun hfit'
    have hsetb := setRow_heap w b cur (cur.toList.take (n * sz') ++ news ++ cur.toList.drop (n * sz' + news.length)).toArray e (0, 0) hg
    have hset := sat_set (w' := w.setRow b (cur.toList.take (n * sz') ++ news ++ cur.toList.drop (n * sz' + news.length)).toArray) (N := fun id => id = rid ∨ nx ≤ id) (o' := { ob with body := .rows (over l n ((l2.drop off2).take m)) }) s hid hE (by rw [hot]; exact hsetb)
      (fun k hk => setRow_other w b k _ (fun e => hk e)) (by simp [World.setRow]) ⟨rfl, rfl, rfl⟩ hsz.symm (by simp; omega) (by simp only [Body.len]; rw [over_len _ _ _ (by simp; omega)]; exact hlc)
      (fun hh => by have := hex hh; rw [hob] at this; simp only [Body.len] at this ⊢; rw [over_len _ _ _ (by simp; omega)]; exact this) (.inl rfl) (fun i' hi' j' hj' => by
        simp only [Body.len] at hi'
        rw [over_len _ _ _ (by simp; omega)] at hi'
        simp only [Body.cell?, over_get l n ((l2.drop off2).take m) (by simp; omega)]
        have hml : ((l2.drop off2).take m).length = m := by simp; omega
        rw [hml]
        obtain ⟨x0, v0, g1, g2, g3⟩ := hcell i' (by rw [hob]; exact hi') j' hj'
        rw [hob] at g1
        simp only [Body.cell?] at g1
        by_cases hc : n ≤ i' ∧ i' < n + m
        · rw [if_pos hc]
          obtain ⟨x', v', e1, e2, e3⟩ := hsrc (i' - n) j' (by omega) hj'
          refine ⟨x', v', ?_, ?_, e3⟩
          · rw [List.getElem?_take, if_pos (by omega), List.getElem?_drop]
            exact e1
          · have ea : i' * sz' + j' = n * sz' + ((i' - n) * sz' + j') := by
              rw [← Nat.add_assoc, ← Nat.add_mul, show n + (i' - n) = i' by omega]
            have hlt : (i' - n) * sz' + j' < news.length := by rw [hnl]; exact flat_lt hj' (by omega)
            simp only [List.getElem?_toArray]
            rw [List.append_assoc, List.getElem?_append_right (by simp; omega), List.length_take, Nat.min_eq_left (by simp only [Array.length_toList]; omega), ea, Nat.add_sub_cancel_left, List.getElem?_append_left hlt]
            exact e2
        · rw [if_neg hc]
          refine ⟨x0, v0, g1, ?_, g3⟩
          simp only [List.getElem?_toArray]
          rcases Nat.lt_or_ge i' n with hlt | hge
          · have : i' * sz' + j' < n * sz' := flat_lt hj' hlt
            rw [List.append_assoc, List.getElem?_append_left (by simp; omega), List.getElem?_take, if_pos this, Array.getElem?_toList]
            exact g2
          · have hge2 : n + m ≤ i' := by omega
            have hmul : (n + m) * sz' ≤ i' * sz' := Nat.mul_le_mul_right _ hge2
            rw [Nat.add_mul] at hmul
            rw [List.getElem?_append_right (by simp; omega), List.getElem?_drop, Array.getElem?_toList]
            have hidx : n * sz' + news.length + (i' * sz' + j' - (cur.toList.take (n * sz') ++ news).length) = i' * sz' + j' := by
              simp
              omega
            rw [hidx]
            exact g2)
    exact .value E _ _ (append_run h hu hv hrun) ⟨hset.1, .sl (cap := cap) hE rfl (Nat.le_refl _) (by omega) (.inr (by simp)), hset.2, Nat.le_refl _⟩
/-- the object that an append of structs leaves -/
def objAppR (t : TypeId) (sz : Nat) (l : List (List AV)) : AObj := ⟨t, sz, false, false, .rows l⟩

/-- append behind the end -/
theorem append_rows {H0 : Heap} {v : Value} {n : Nat} {xs : List Value} {t ty e : TypeId} {i : TypeInfo} {z : Value} {sz : Nat} {p : Addr} {m c2 : Nat} {news : List Value} {l src : List (List AV)} {nx' : Nat} (s0 : Sat E nx H0 w) (s : Sat E nx H w) (h0 : ∀ id o, H id = some o → H0 id = some o)
    (hr : E.f rid = none) (hnx : nx ≤ nx') (hrid : rid < nx') (ht : P.underlying t = some (.slice e)) (hi : P.info? e = some i) (hz : i.zero = some z) (hisz : i.size = sz) (hzs : z.cells.size = sz) (hsz : 0 < sz)
    (hown : w.ownsRow 0 e sz v n xs) (hrow : ∀ b, v.ownBlock = some b → Hb E H0 b ∧ ¬ Hb E H b) (hll : l.length = n)
    (hxs : ∀ i j, i < n → j < sz → ∃ x u, (l[i]?).bind (·[j]?) = some x ∧ xs[i * sz + j]? = some u ∧ Rep E w x u)
    (hnl : news.length = m * sz) (hnews : ∀ (j : Nat) u, news[j]? = some u → w.cell? (p.add j) = some u) (h1 : ∀ u ∈ news, u.oneCell' = true) (hsl : src.length = m)
    (hsrc : ∀ i j, i < m → j < sz → ∃ x u, (src[i]?).bind (·[j]?) = some x ∧ news[i * sz + j]? = some u ∧ Rep E w x u) (h63 : n + m ≤ 1000000000) (hby : (n + m) * i.bytes ≤ 140737488355328) :
    ∃ E' w' u, (Builtin.append_ #[t, t] ty #[v, .slice (some p) m c2]).run P w = .ok u w' ∧ Sat E' nx' (upd H rid (some (objAppR e sz (l ++ src)))) w' ∧
      Rep E' w' (.sl rid 0 (n + m) none) u ∧ Ext E H0 w (fun id => id = rid) E' (upd H rid (some (objAppR e sz (l ++ src)))) w' := by
  obtain ⟨v', w', hrun, hown', hgr, hnil, hat⟩ := run_append_own_at (P := P) w 0 t ty e i z sz i.bytes ht hi hz hisz rfl hzs hsz v n xs hown p m c2 news hnl hnews h1 (by simp only [maxLen]; omega) hby (Nat.zero_le _)
  rcases hown'.2 with ⟨hv, hn0⟩ | ⟨g, cap, cur, hv, _, hgg, hnc, hm, hs, htk⟩
  · subst hv
    have := sat_put (p := .nil) (ob := objAppR e sz (l ++ src)) s0 s h0 hr hnx hrid hrow hgr ⟨by simp only [objAppR, Body.len, List.length_append]; omega, rfl⟩
    refine ⟨_, w', _, hrun, this.1, ?_, this.2⟩
    rw [hn0]
    exact .slnil (Env.put_same _ _ _) rfl
  · subst hv
    have hrow' : v.ownBlock = some g ∨ w.heap.size ≤ g := by
      rcases hat with hat | hat
      · left; rw [← hat]; rfl
      · right; simp [Value.ownBlock] at hat; omega
    have hlen := hown.1
    have hcur : ∀ k u, (xs ++ news)[k]? = some u → cur[k]? = some u := fun k u hk => by
      rw [← htk, List.getElem?_take] at hk
      split at hk
      · simpa using hk
      · cases hk
    have := sat_put (p := .at_ g cap sz) (ob := objAppR e sz (l ++ src)) s0 s h0 hr hnx hrid hrow hgr ⟨rfl, hrow', by simp only [objAppR, Body.len, List.length_append]; omega, hm, rfl, cur, hgg, hs, fun i' hi' j hj => by
      simp only [objAppR, Body.len, List.length_append] at hi'
      simp only [objAppR, Body.cell?]
      rcases Nat.lt_or_ge i' n with hlt | hge
      · obtain ⟨x, u, e1, e2, e3⟩ := hxs i' j hlt hj
        refine ⟨x, u, by rw [List.getElem?_append_left (by omega)]; exact e1, hcur _ _ ?_, e3⟩
        rw [List.getElem?_append_left (by rw [hlen]; exact flat_lt hj hlt)]
        exact e2
      · obtain ⟨x, u, e1, e2, e3⟩ := hsrc (i' - n) j (by omega) hj
        refine ⟨x, u, by rw [List.getElem?_append_right (by omega), hll]; exact e1, hcur _ _ ?_, e3⟩
        have ea : i' * sz + j = n * sz + ((i' - n) * sz + j) := by
          rw [← Nat.add_assoc, ← Nat.add_mul, show n + (i' - n) = i' by omega]
        rw [ea, List.getElem?_append_right (by omega), hlen, Nat.add_sub_cancel_left]
        exact e2⟩
    refine ⟨_, w', _, hrun, this.1, ?_, this.2⟩
    exact .sl (cap := cap) (b := g) (c := cap) (sz := sz) (Env.put_same _ _ _) rfl (Nat.le_refl _) hnc (.inr (by simp))

def infoB (P : Program) (e : TypeId) : Option Nat := (P.info? e).map (·.bytes)

theorem src_ones {sz m : Nat} {news : List Value} {src : List (List AV)} (hnl : news.length = m * sz) (hsrc : ∀ i j, i < m → j < sz → ∃ x u, (src[i]?).bind (·[j]?) = some x ∧ news[i * sz + j]? = some u ∧ Rep E w x u) (ho : onesOk sz src = true) : ∀ u ∈ news, u.oneCell' = true := by
  intro u hu'
  obtain ⟨k, hk, rfl⟩ := List.getElem_of_mem hu'
  have hpos : 0 < sz := by
    rcases Nat.eq_zero_or_pos sz with h | h
    · subst h; simp at hnl; subst hnl; simp at hk
    · exact h
  obtain ⟨x', v', e1, e2, e3⟩ := hsrc (k / sz) (k % sz) ((Nat.div_lt_iff_lt_mul hpos).2 (by omega)) (Nat.mod_lt _ hpos)
  rw [Nat.mul_comm (k / sz), Nat.div_add_mod] at e2
  have : news[k] = v' := by
    have := List.getElem?_eq_getElem hk
    rw [this] at e2
    injection e2
  rw [this]
  exact e3.one (onesOk_ok ho e1)

theorem ok_appendRows {x y : Operand} {t e : TypeId} {id n id2 off2 m : Nat} {lim2 : Option Nat} {ob ob2 : AObj} {l l2 : List (List AV)} {sz by_ : Nat} {z : List Value} {nx' : Nat} (s : Sat E nx H w) (r : RepT E w tm a) (hr : E.f rid = none) (hnx : nx ≤ nx') (hrid : rid < nx') (h : o.op = .call { callee := .builtin .append, args := #[x, y], argTypes := #[t, t] })
    (ht : elemT P t = some e) (hs : szT P e = some sz) (hz : zeroT P e = some z) (hzl : z.length = sz) (hpos : 0 < sz) (hby : infoB P e = some by_) (hx : avOf tm x = .sl id 0 n none) (hid : H id = some ob) (hob : ob.body = .rows l) (hsz : ob.sz = sz) (hot : ob.t = e) (hfz : ob.fz = false) (hn : l.length = n)
    (hy : avOf tm y = .sl id2 off2 m lim2) (hid2 : H id2 = some ob2) (hob2 : ob2.body = .rows l2) (hsz2 : ob2.sz = sz) (hm : 0 < m) (hle2 : off2 + m ≤ l2.length) (hones : onesOk sz ((l2.drop off2).take m) = true) (h63 : n + m ≤ 1000000000) (hbb : (n + m) * by_ ≤ 140737488355328) :
    OpOk P o E H a w rid nx ⟨.sl rid 0 (n + m) none, [(id, none), (rid, some (objAppR e sz (l ++ (l2.drop off2).take m)))], nx'⟩ := by
  have ry := r.eval y
  rw [hy] at ry
  obtain ⟨p, c2, news, hv, hnl, hnews, hsrc⟩ := rows_src s hid2 hob2 ry hm hle2
  rw [hsz2] at hnl hsrc
  have hsrc' : ∀ i j, i < m → j < sz → ∃ x u, (((l2.drop off2).take m)[i]?).bind (·[j]?) = some x ∧ news[i * sz + j]? = some u ∧ Rep E w x u := fun i j hi hj => by
    obtain ⟨x, u, e1, e2, e3⟩ := hsrc i j hi hj
    exact ⟨x, u, by rw [List.getElem?_take, if_pos hi, List.getElem?_drop]; exact e1, e2, e3⟩
  have one := src_ones hnl hsrc' hones
  obtain ⟨i, hi, hi2⟩ := Option.map_eq_some_iff.1 hs
  have hi3 : i.bytes = by_ := by simpa [infoB, hi] using hby
  obtain ⟨zv, hzv, hzc⟩ : ∃ zv, i.zero = some zv ∧ zv.cells.toList = z := by
    simpa [zeroT, hi] using hz
  have hzs : zv.cells.size = sz := by rw [← hzl, ← hzc]; simp
  have rx := r.eval x
  rw [hx] at rx
  generalize hu : a.eval x = u at rx
  have s1 : Sat E nx (upd H id none) w := s.sub fun k q hk => by
    by_cases e : k = id
    · subst e; rw [upd_same] at hk; cases hk
    · rwa [upd_other _ _ e] at hk
  have h0 : ∀ k q, upd H id none k = some q → H k = some q := fun k q hk => by
    by_cases e : k = id
    · subst e; rw [upd_same] at hk; cases hk
    · rwa [upd_other _ _ e] at hk
  have fin : ∀ xs, w.ownsRow 0 e sz u n xs → (∀ b, u.ownBlock = some b → Hb E H b ∧ ¬ Hb E (upd H id none) b) → (∀ i j, i < n → j < sz → ∃ x v, (l[i]?).bind (·[j]?) = some x ∧ xs[i * sz + j]? = some v ∧ Rep E w x v) →
      OpOk P o E H a w rid nx ⟨.sl rid 0 (n + m) none, [(id, none), (rid, some (objAppR e sz (l ++ (l2.drop off2).take m)))], nx'⟩ := by
    intro xs hown hrow hxs
    obtain ⟨E', w', u', k1, k2, k3, k4⟩ := append_rows (ty := o.type) s s1 h0 hr hnx hrid (elemT_under ht) hi hzv hi2 hzs hpos hown hrow hn hxs hnl hnews one (by simp; omega) hsrc' h63 (by rw [hi3]; exact hbb)
    exact .value E' w' u' (append_run h hu hv k1) ⟨k2, k3, k4.weaken fun id e => .inl e, hnx⟩
  cases rx with
  | slnil hE hl => exact fin [] (World.ownsRow_nil w 0 e sz) (fun b hb => by simp [Value.ownBlock] at hb) fun i j hi => by omega
  | sl hE hc hl hn' hA =>
    rename_i b c sz' cap A
    have ro := s.at_ hid hE
    have hsz' : sz' = sz := by rw [← hsz]; exact ro.1
    subst hsz'
    simp only [Option.getD_none, Nat.add_zero] at hc
    subst hc
    obtain rfl := hA.resolve_left (by omega)
    obtain ⟨_, _, hlen, hmx, _, cur, fr, hg, hcs, hfr, hcell⟩ := ro
    have hfr0 : fr = (0, 0) := hfr.resolve_right fun h => by rw [hfz] at h; cases h.1
    subst hfr0
    rw [hot] at hg
    have hns : n * sz' ≤ cur.size := by rw [hcs]; exact Nat.mul_le_mul_right _ hn'
    refine fin (cur.toList.take (n * sz')) ⟨by simp; omega, .inr ⟨b, cap, cur, by simp, Nat.zero_le _, hg, hn', hmx, hcs, rfl⟩⟩ (fun b' hb' => ?_) fun i j hi' hj => ?_
    · simp only [Value.ownBlock, Option.some.injEq] at hb'
      subst hb'
      refine ⟨⟨id, ob, cap, sz', hid, hE⟩, ?_⟩
      rintro ⟨k, q, c2, z2, hk, hf⟩
      have hne : k ≠ id := fun e => by subst e; rw [upd_same] at hk; cases hk
      rw [upd_other _ _ hne] at hk
      exact hne (s.inj _ _ _ _ _ _ _ _ _ hk hid hf hE)
    · obtain ⟨x', v', e1, e2, e3⟩ := hcell i (by rw [hob]; simp only [Body.len]; omega) j hj
      rw [hob] at e1
      exact ⟨x', v', e1, by rw [List.getElem?_take, if_pos (flat_lt hj hi')]; simpa using e2, e3⟩

theorem view_src {sz m : Nat} {gv : Nat → List AV} {u : Value} (hx : Rep E w (.view sz m gv) u) (hm : 0 < m) :
    ∃ (p : Addr) (c : Nat) (news : List Value), u = .slice (some p) m c ∧ news.length = m * sz ∧ (∀ (j : Nat) v, news[j]? = some v → w.cell? (p.add j) = some v) ∧
      ∀ i j, i < m → j < sz → ∃ x v, (((List.range m).map gv)[i]?).bind (·[j]?) = some x ∧ news[i * sz + j]? = some v ∧ Rep E w x v := by
  cases hx with
  | view cells hc hmx hA hl hcell hr =>
    rename_i c b o A
    obtain ⟨rfl, _⟩ := hA hm
    refine ⟨⟨b, o, none⟩, c, (List.range (m * sz)).map fun k => cells (k / sz) (k % sz), rfl, by simp, fun j v hj => ?_, fun i j hi hj => ?_⟩
    · rw [List.getElem?_map, Option.map_eq_some_iff] at hj
      obtain ⟨k, hk, rfl⟩ := hj
      obtain ⟨hk1, hk2⟩ := List.getElem?_eq_some_iff.1 hk
      rw [List.getElem_range] at hk2
      subst hk2
      rw [List.length_range] at hk1
      have hsz : 0 < sz := by
        rcases Nat.eq_zero_or_pos sz with h | h
        · rw [h] at hk1; simp at hk1
        · exact h
      have := hcell (j / sz) (j % sz) ((Nat.div_lt_iff_lt_mul hsz).2 hk1) (Nat.mod_lt _ hsz)
      rw [Nat.add_assoc, Nat.mul_comm (j / sz), Nat.div_add_mod] at this
      have e0 : (⟨b, o, none⟩ : Addr).add j = ⟨b, o + j, none⟩ := by
        unfold Addr.add
        split
        · simp_all
        · rfl
      rw [e0]
      exact this
    · have h1 : (gv i)[j]? = some ((gv i)[j]'(by rw [hl i hi]; exact hj)) := List.getElem?_eq_getElem _
      have hsz : 0 < sz := by omega
      have hlt : i * sz + j < m * sz := flat_lt hj hi
      have e1 : (i * sz + j) / sz = i := by rw [Nat.mul_comm, Nat.mul_add_div hsz, Nat.div_eq_of_lt hj, Nat.add_zero]
      have e2 : (i * sz + j) % sz = j := by rw [Nat.mul_comm, Nat.mul_add_mod, Nat.mod_eq_of_lt hj]
      refine ⟨_, cells i j, ?_, ?_, hr i j _ hi h1⟩
      · rw [List.getElem?_map, List.getElem?_range hi]
        exact h1
      · rw [List.getElem?_map, List.getElem?_range hlt, Option.map_some, e1, e2]

theorem ok_appendView {x y : Operand} {t e : TypeId} {id n m : Nat} {gv : Nat → List AV} {ob : AObj} {l : List (List AV)} {sz by_ : Nat} {z : List Value} {nx' : Nat} (s : Sat E nx H w) (r : RepT E w tm a) (hr : E.f rid = none) (hnx : nx ≤ nx') (hrid : rid < nx') (h : o.op = .call { callee := .builtin .append, args := #[x, y], argTypes := #[t, t] })
    (ht : elemT P t = some e) (hs : szT P e = some sz) (hz : zeroT P e = some z) (hzl : z.length = sz) (hpos : 0 < sz) (hby : infoB P e = some by_) (hx : avOf tm x = .sl id 0 n none) (hid : H id = some ob) (hob : ob.body = .rows l) (hsz : ob.sz = sz) (hot : ob.t = e) (hfz : ob.fz = false) (hn : l.length = n)
    (hy : avOf tm y = .view sz m gv) (hm : 0 < m) (hones : onesOk sz ((List.range m).map gv) = true) (h63 : n + m ≤ 1000000000) (hbb : (n + m) * by_ ≤ 140737488355328) :
    OpOk P o E H a w rid nx ⟨.sl rid 0 (n + m) none, [(id, none), (rid, some (objAppR e sz (l ++ (List.range m).map gv)))], nx'⟩ := by
  have ry := r.eval y
  rw [hy] at ry
  obtain ⟨p, c2, news, hv, hnl, hnews, hsrc'⟩ := view_src ry hm
  have one := src_ones hnl hsrc' hones
  obtain ⟨i, hi, hi2⟩ := Option.map_eq_some_iff.1 hs
  have hi3 : i.bytes = by_ := by simpa [infoB, hi] using hby
  obtain ⟨zv, hzv, hzc⟩ : ∃ zv, i.zero = some zv ∧ zv.cells.toList = z := by
    simpa [zeroT, hi] using hz
  have hzs : zv.cells.size = sz := by rw [← hzl, ← hzc]; simp
  have rx := r.eval x
  rw [hx] at rx
  generalize hu : a.eval x = u at rx
  have s1 : Sat E nx (upd H id none) w := s.sub fun k q hk => by
    by_cases e : k = id
    · subst e; rw [upd_same] at hk; cases hk
    · rwa [upd_other _ _ e] at hk
  have h0 : ∀ k q, upd H id none k = some q → H k = some q := fun k q hk => by
    by_cases e : k = id
    · subst e; rw [upd_same] at hk; cases hk
    · rwa [upd_other _ _ e] at hk
  have fin : ∀ xs, w.ownsRow 0 e sz u n xs → (∀ b, u.ownBlock = some b → Hb E H b ∧ ¬ Hb E (upd H id none) b) → (∀ i j, i < n → j < sz → ∃ x v, (l[i]?).bind (·[j]?) = some x ∧ xs[i * sz + j]? = some v ∧ Rep E w x v) →
      OpOk P o E H a w rid nx ⟨.sl rid 0 (n + m) none, [(id, none), (rid, some (objAppR e sz (l ++ (List.range m).map gv)))], nx'⟩ := by
    intro xs hown hrow hxs
    obtain ⟨E', w', u', k1, k2, k3, k4⟩ := append_rows (ty := o.type) s s1 h0 hr hnx hrid (elemT_under ht) hi hzv hi2 hzs hpos hown hrow hn hxs hnl hnews one (by simp) hsrc' h63 (by rw [hi3]; exact hbb)
    exact .value E' w' u' (append_run h hu hv k1) ⟨k2, k3, k4.weaken fun id e => .inl e, hnx⟩
  cases rx with
  | slnil hE hl => exact fin [] (World.ownsRow_nil w 0 e sz) (fun b hb => by simp [Value.ownBlock] at hb) fun i j hi => by omega
  | sl hE hc hl hn' hA =>
    rename_i b c sz' cap A
    have ro := s.at_ hid hE
    have hsz' : sz' = sz := by rw [← hsz]; exact ro.1
    subst hsz'
    simp only [Option.getD_none, Nat.add_zero] at hc
    subst hc
    obtain rfl := hA.resolve_left (by omega)
    obtain ⟨_, _, hlen, hmx, _, cur, fr, hg, hcs, hfr, hcell⟩ := ro
    have hfr0 : fr = (0, 0) := hfr.resolve_right fun h => by rw [hfz] at h; cases h.1
    subst hfr0
    rw [hot] at hg
    have hns : n * sz' ≤ cur.size := by rw [hcs]; exact Nat.mul_le_mul_right _ hn'
    refine fin (cur.toList.take (n * sz')) ⟨by simp; omega, .inr ⟨b, cap, cur, by simp, Nat.zero_le _, hg, hn', hmx, hcs, rfl⟩⟩ (fun b' hb' => ?_) fun i j hi' hj => ?_
    · simp only [Value.ownBlock, Option.some.injEq] at hb'
      subst hb'
      refine ⟨⟨id, ob, cap, sz', hid, hE⟩, ?_⟩
      rintro ⟨k, q, c2, z2, hk, hf⟩
      have hne : k ≠ id := fun e => by subst e; rw [upd_same] at hk; cases hk
      rw [upd_other _ _ hne] at hk
      exact hne (s.inj _ _ _ _ _ _ _ _ _ hk hid hf hE)
    · obtain ⟨x', v', e1, e2, e3⟩ := hcell i (by rw [hob]; simp only [Body.len]; omega) j hj
      rw [hob] at e1
      exact ⟨x', v', e1, by rw [List.getElem?_take, if_pos (flat_lt hj hi')]; simpa using e2, e3⟩

theorem ok_appendRowsNil {x y : Operand} {t e : TypeId} {id2 off2 m : Nat} {lim2 : Option Nat} {ob2 : AObj} {l2 : List (List AV)} {sz by_ : Nat} {z : List Value} {nx' : Nat} (s : Sat E nx H w) (r : RepT E w tm a) (hr : E.f rid = none) (hnx : nx ≤ nx') (hrid : rid < nx') (h : o.op = .call { callee := .builtin .append, args := #[x, y], argTypes := #[t, t] })
    (ht : elemT P t = some e) (hs : szT P e = some sz) (hz : zeroT P e = some z) (hzl : z.length = sz) (hpos : 0 < sz) (hby : infoB P e = some by_) (hx : avOf tm x = .val (.slice none 0 0))
    (hy : avOf tm y = .sl id2 off2 m lim2) (hid2 : H id2 = some ob2) (hob2 : ob2.body = .rows l2) (hsz2 : ob2.sz = sz) (hm : 0 < m) (hle2 : off2 + m ≤ l2.length) (hones : onesOk sz ((l2.drop off2).take m) = true) (h63 : m ≤ 1000000000) (hbb : m * by_ ≤ 140737488355328) :
    OpOk P o E H a w rid nx ⟨.sl rid 0 m none, [(rid, some (objAppR e sz ((l2.drop off2).take m)))], nx'⟩ := by
  have ry := r.eval y
  rw [hy] at ry
  obtain ⟨p, c2, news, hv, hnl, hnews, hsrc⟩ := rows_src s hid2 hob2 ry hm hle2
  rw [hsz2] at hnl hsrc
  have hsrc' : ∀ i j, i < m → j < sz → ∃ x u, (((l2.drop off2).take m)[i]?).bind (·[j]?) = some x ∧ news[i * sz + j]? = some u ∧ Rep E w x u := fun i j hi hj => by
    obtain ⟨x, u, e1, e2, e3⟩ := hsrc i j hi hj
    exact ⟨x, u, by rw [List.getElem?_take, if_pos hi, List.getElem?_drop]; exact e1, e2, e3⟩
  obtain ⟨i, hi, hi2⟩ := Option.map_eq_some_iff.1 hs
  have hi3 : i.bytes = by_ := by simpa [infoB, hi] using hby
  obtain ⟨zv, hzv, hzc⟩ : ∃ zv, i.zero = some zv ∧ zv.cells.toList = z := by
    simpa [zeroT, hi] using hz
  have hzs : zv.cells.size = sz := by rw [← hzl, ← hzc]; simp
  obtain ⟨E', w', u', k1, k2, k3, k4⟩ := append_rows (ty := o.type) (l := []) (n := 0) (xs := []) (v := .slice none 0 0) s s (fun _ _ h => h) hr hnx hrid (elemT_under ht) hi hzv hi2 hzs hpos (World.ownsRow_nil w 0 e sz) (fun b hb => by simp [Value.ownBlock] at hb) rfl (fun i j hi => by omega) hnl hnews (src_ones hnl hsrc' hones) (by simp; omega) hsrc' (by omega) (by rw [hi3, Nat.zero_add]; exact hbb)
  simp only [List.nil_append, Nat.zero_add] at k2 k3 k4
  exact .value E' w' u' (append_run h (eval_val r hx) hv k1) ⟨k2, k3, k4.weaken fun id e => .inl e, hnx⟩

/-! ### clear -/
theorem ok_clear0 {x : Operand} {t e : TypeId} {id off : Nat} {lim : Option Nat} (s : Sat E nx H w) (r : RepT E w tm a) (h : o.op = .call { callee := .builtin .clear, args := #[x], argTypes := #[t] }) (ht : elemT P t = some e) (hx : avOf tm x = .sl id off 0 lim) :
    OpOk P o E H a w rid nx ⟨.val (.tuple #[]), [], nx⟩ := by
  have rx := r.eval x
  rw [hx] at rx
  generalize hu : a.eval x = u at rx
  have : ∃ A c, u = .slice A 0 c := by cases rx <;> exact ⟨_, _, rfl⟩
  obtain ⟨A, c, rfl⟩ := this
  refine ok_val (u := .tuple #[]) s ?_ (.val _)
  cases A <;> simp [execOp, h, resolve, invoke, builtin, Builtin.clear_, hu, elemT_run ht]

theorem zeroCells_list (z : Array Value) (n : Nat) : (Builtin.zeroCells z n).toList = (List.replicate n z.toList).flatten := range_mod z n _ rfl

theorem flatten_get {z : List Value} {sz : Nat} (hz : z.length = sz) : ∀ (n i j : Nat), i < n → j < sz → ((List.replicate n z).flatten)[i * sz + j]? = z[j]?
  | 0, i, j, h, _ => by omega
  | n + 1, 0, j, _, hj => by
    rw [List.replicate_succ, List.flatten_cons, Nat.zero_mul, Nat.zero_add, List.getElem?_append_left (by omega)]
  | n + 1, i + 1, j, h, hj => by
    rw [List.replicate_succ, List.flatten_cons, List.getElem?_append_right (by rw [Nat.add_mul]; omega), hz]
    have := flatten_get hz n i j (by omega) hj
    rw [← this]
    congr 1
    rw [Nat.add_mul]
    omega

theorem ok_clear {x : Operand} {t e : TypeId} {id off n : Nat} {lim : Option Nat} {ob : AObj} {l : List (List AV)} {sz : Nat} {z : List Value} (s : Sat E nx H w) (r : RepT E w tm a) (h : o.op = .call { callee := .builtin .clear, args := #[x], argTypes := #[t] }) (ht : elemT P t = some e) (hs : szT P e = some sz)
    (hz : zeroT P e = some z) (hzl : z.length = sz) (hz1 : z.all Value.oneCell' = true) (hx : avOf tm x = .sl id off (n + 1) lim) (hid : H id = some ob) (hob : ob.body = .rows l) (hsz : ob.sz = sz) (hle : off + (n + 1) ≤ l.length) :
    OpOk P o E H a w rid nx ⟨.val (.tuple #[]), [(id, some { ob with body := .rows (over l off (List.replicate (n + 1) (z.map .val))) })], nx⟩ := by
  have rx := r.eval x
  rw [hx] at rx
  generalize hu : a.eval x = u at rx
  cases rx with
  | sl hE hc hl hn' hA =>
    rename_i b c sz' cap A
    have ro := s.at_ hid hE
    have hsz' : sz' = sz := by rw [← hsz]; exact ro.1
    subst hsz'
    obtain rfl := hA.resolve_left (by omega)
    obtain ⟨zv, hzv, hzc⟩ := zeroT_run hz w
    have hnl : (Builtin.zeroCells zv.cells (n + 1)).toList.length = (n + 1) * sz' := by
      rw [zeroCells_list, hzc]; simp [hzl]
    have hlc : l.length ≤ c := by have := ro.2.2.1; rw [hob] at this; exact this
    have hrun := run_storeCells_cells (P := P) b (off * sz') (Builtin.zeroCells zv.cells (n + 1)).toList 0 w (fun j hj => (ro.writable (by
        rw [hnl] at hj
        have : (off + (n + 1)) * sz' ≤ c * sz' := Nat.mul_le_mul_right _ (by omega)
        rw [Nat.add_mul] at this
        omega)).1) (fun j hj => (ro.writable (by
        rw [hnl] at hj
        have : (off + (n + 1)) * sz' ≤ c * sz' := Nat.mul_le_mul_right _ (by omega)
        rw [Nat.add_mul] at this
        omega)).2) (fun v hv => by
        rw [zeroCells_list, hzc] at hv
        obtain ⟨y, hy, hv⟩ := List.mem_flatten.1 hv
        rw [List.eq_of_mem_replicate hy] at hv
        exact List.all_eq_true.1 hz1 v hv)
    simp only [Nat.add_zero] at hrun
    obtain ⟨_, _, hlc', _, hex, cur, fr, hg, hcs, hfr, hcell⟩ := ro
    obtain ⟨cur', g1, g2, g3, g4, g5, gm⟩ := setCells_spec b ob.t fr (Builtin.zeroCells zv.cells (n + 1)).toList (off * sz') cur w hg
    have hrl : (List.replicate (n + 1) (z.map AV.val)).length = n + 1 := by simp
    have hset := sat_set (w' := w.setCells b (off * sz') (Builtin.zeroCells zv.cells (n + 1)).toList) (N := fun id => id = rid ∨ nx ≤ id) (o' := { ob with body := .rows (over l off (List.replicate (n + 1) (z.map .val))) }) s hid hE g1 g4 g5 gm hsz.symm (by rw [g2]; exact hcs)
      (by simp only [Body.len]; rw [over_len _ _ _ (by rw [hrl]; exact hle)]; exact hlc) (fun hh => by have := hex hh; rw [hob] at this; simp only [Body.len] at this ⊢; rw [over_len _ _ _ (by rw [hrl]; exact hle)]; exact this) hfr (fun i' hi' j' hj' => by
        simp only [Body.len] at hi'
        rw [over_len _ _ _ (by rw [hrl]; exact hle)] at hi'
        simp only [Body.cell?, over_get l off (List.replicate (n + 1) (z.map .val)) (by rw [hrl]; exact hle), hrl]
        rw [g3, hnl]
        have hcur : i' * sz' + j' < cur.size := by rw [hcs]; exact flat_lt hj' (by omega)
        by_cases hc2 : off ≤ i' ∧ i' < off + (n + 1)
        · rw [if_pos hc2]
          have ea : i' * sz' + j' = off * sz' + ((i' - off) * sz' + j') := by
            rw [← Nat.add_assoc, ← Nat.add_mul, show off + (i' - off) = i' by omega]
          have hlt : (i' - off) * sz' + j' < (n + 1) * sz' := flat_lt hj' (by omega)
          rw [if_pos ⟨by omega, by omega, hcur⟩, ea, Nat.add_sub_cancel_left, zeroCells_list, hzc, flatten_get hzl _ _ _ (by omega) hj']
          have hjz : j' < z.length := by omega
          exact ⟨.val z[j'], z[j'], by simp [show i' - off < n + 1 by omega, hjz], by simp [hjz], .val _⟩
        · rw [if_neg hc2]
          obtain ⟨x0, v0, e1, e2, e3⟩ := hcell i' (by rw [hob]; exact hi') j' hj'
          rw [hob] at e1
          refine ⟨x0, v0, e1, ?_, e3⟩
          rw [if_neg]
          · exact e2
          · rintro ⟨q1, q2, _⟩
            rcases Nat.lt_or_ge i' off with hlt | hge
            · have := flat_lt (j := j') hj' hlt
              omega
            · have hge2 : off + (n + 1) ≤ i' := by omega
              have : (off + (n + 1)) * sz' ≤ i' * sz' := Nat.mul_le_mul_right _ hge2
              rw [Nat.add_mul] at this
              omega)
    refine .value E _ _ ?_ ⟨hset.1, .val _, hset.2, Nat.le_refl _⟩
    simp [execOp, h, resolve, invoke, builtin, Builtin.clear_, hu, elemT_run ht, hzv, hrun]
/-- is one of the two nil and the other not, seen from what is known? -/
def eqNil (P : Program) (tm : Nat → AV) (ty : TypeId) (x y : Operand) : Bool :=
  (nilT P ty == 1 && match avOf tm x, avOf tm y with
    | .ptr _ _ _, .val (.pointer none) => true
    | .val (.pointer none), .ptr _ _ _ => true
    | _, _ => false) ||
  (nilT P ty == 2 && match avOf tm x, avOf tm y with
    | .sl _ _ n _, .val (.slice none 0 0) => decide (0 < n)
    | .val (.slice none 0 0), .sl _ _ n _ => decide (0 < n)
    | .csl _ _ _ _ _, .val (.slice none 0 0) => true
    | _, _ => false)

theorem rep_ptr {id i j : Nat} {u : Value} (h : Rep E w (.ptr id i j) u) : ∃ p, u = .pointer (some p) := by cases h; exact ⟨_, rfl⟩
theorem rep_slpos {id off n : Nat} {lim : Option Nat} {u : Value} (h : Rep E w (.sl id off n lim) u) (h0 : 0 < n) : ∃ p n c, u = .slice (some p) n c := by
  cases h with
  | slnil => omega
  | sl hE hc hl hn hA =>
    obtain rfl := hA.resolve_left (by omega)
    exact ⟨_, _, _, rfl⟩

theorem rep_cslpos {id i j n c : Nat} {u : Value} (h : Rep E w (.csl id i j n c) u) : ∃ p n c, u = .slice (some p) n c := by
  cases h
  exact ⟨_, _, _, rfl⟩

theorem eqNil_ok {ty : TypeId} {x y : Operand} (r : RepT E w tm a) (h : eqNil P tm ty x y = true) : (Op.equal ty (a.eval x) (a.eval y)).run P w = .ok false w := by
  unfold eqNil at h
  have rx := r.eval x
  have ry := r.eval y
  simp only [Bool.or_eq_true, Bool.and_eq_true, beq_iff_eq] at h
  apply equal_nil
  rcases h with ⟨h1, h2⟩ | ⟨h1, h2⟩
  · refine .inl ⟨h1, ?_⟩
    split at h2
    · rename_i hx hy
      rw [hx] at rx
      exact .inl ((rep_ptr rx).imp fun p hp => ⟨hp, eval_val r hy⟩)
    · rename_i hx hy
      rw [hy] at ry
      exact .inr ((rep_ptr ry).imp fun p hp => ⟨eval_val r hx, hp⟩)
    · cases h2
  · refine .inr ⟨h1, ?_⟩
    split at h2
    · rename_i hx hy
      rw [hx] at rx
      obtain ⟨p, n, c, e⟩ := rep_slpos rx (by simpa using h2)
      exact .inl ⟨p, n, c, e, eval_val r hy⟩
    · rename_i hx hy
      rw [hy] at ry
      obtain ⟨p, n, c, e⟩ := rep_slpos ry (by simpa using h2)
      exact .inr ⟨p, n, c, eval_val r hx, e⟩
    · rename_i hx hy
      rw [hx] at rx
      obtain ⟨p, n, c, e⟩ := rep_cslpos rx
      exact .inl ⟨p, n, c, e, eval_val r hy⟩
    · cases h2

theorem eqNil_shape {ty : TypeId} {x y : Operand} (r : RepT E w tm a) (h : eqNil P tm ty x y = true) : (∃ p q, a.eval x = .pointer p ∧ a.eval y = .pointer q) ∨ ∃ p n c q m d, a.eval x = .slice p n c ∧ a.eval y = .slice q m d := by
  unfold eqNil at h
  have rx := r.eval x
  have ry := r.eval y
  simp only [Bool.or_eq_true, Bool.and_eq_true, beq_iff_eq] at h
  rcases h with ⟨h1, h2⟩ | ⟨h1, h2⟩
  · split at h2
    · rename_i hx hy
      rw [hx] at rx
      obtain ⟨p, hp⟩ := rep_ptr rx
      exact .inl ⟨_, _, hp, eval_val r hy⟩
    · rename_i hx hy
      rw [hy] at ry
      obtain ⟨p, hp⟩ := rep_ptr ry
      exact .inl ⟨_, _, eval_val r hx, hp⟩
    · cases h2
  · split at h2
    · rename_i hx hy
      rw [hx] at rx
      obtain ⟨p, n, c, e⟩ := rep_slpos rx (by simpa using h2)
      exact .inr ⟨_, _, _, _, _, _, e, eval_val r hy⟩
    · rename_i hx hy
      rw [hy] at ry
      obtain ⟨p, n, c, e⟩ := rep_slpos ry (by simpa using h2)
      exact .inr ⟨_, _, _, _, _, _, eval_val r hx, e⟩
    · rename_i hx hy
      rw [hx] at rx
      obtain ⟨p, n, c, e⟩ := rep_cslpos rx
      exact .inr ⟨_, _, _, _, _, _, e, eval_val r hy⟩
    · cases h2

theorem nil_run {neg : Bool} {ty : TypeId} {x y : Operand} {u v : Value} (h1 : (Op.equal ty u v).run P w = .ok false w) (hs : (∃ p q, u = .pointer p ∧ v = .pointer q) ∨ ∃ p n c q m d, u = .slice p n c ∧ v = .slice q m d) :
    ((do eqGuard (if neg then .neq else .eql) ty x y u v; binOp (if neg then .neq else .eql) ty u v) : Sem Value).run P w = .ok (.bool neg) w := by
  rcases hs with ⟨p, q, rfl, rfl⟩ | ⟨p, n, c, q, m, d, rfl, rfl⟩ <;> cases neg <;> simp [eqGuard, binOp, h1]

theorem ok_eqNil {neg : Bool} {ty : TypeId} {x y : Operand} {tr : TypeId} (s : Sat E nx H w) (r : RepT E w tm a) (h : o.op = .binOp (if neg then .neq else .eql) ty x y tr) (hc : eqNil P tm ty x y = true) : OpOk P o E H a w rid nx ⟨.val (.bool neg), [], nx⟩ := by
  have h1 := nil_run (neg := neg) (x := x) (y := y) (eqNil_ok r hc) (eqNil_shape r hc)
  refine ok_val (u := .bool neg) s ?_ (.val _)
  simp only [Sem.run_bind] at h1
  simp [execOp, h]
  revert h1
  generalize Sem.run P (eqGuard (if neg = true then BinOp.neq else BinOp.eql) ty x y (a.eval x) (a.eval y)) w = g
  intro h1
  cases g with
  | ok z w1 =>
    simp only [Result.andThen_ok] at h1 ⊢
    rw [h1, Result.andThen_ok]
  | _ => cases h1

/-- append of nothing -/
theorem ok_append0 {x y : Operand} {t e : TypeId} {sz : Nat} (s : Sat E nx H w) (r : RepT E w tm a) (h : o.op = .call { callee := .builtin .append, args := #[x, y], argTypes := #[t, t] }) (ht : elemT P t = some e) (hs : szT P e = some sz)
    (hx : ∃ A n c, a.eval x = .slice A n c ∧ n ≤ c) (hy : ∃ A c, a.eval y = .slice A 0 c) : OpOk P o E H a w rid nx ⟨avOf tm x, [], nx⟩ := by
  obtain ⟨A, n, c, h1, h2⟩ := hx
  obtain ⟨B, d, h3⟩ := hy
  obtain ⟨i, hi, hi2⟩ := Option.map_eq_some_iff.1 hs
  have hfc : (Builtin.firstCells i.size 0 (.slice B 0 d)).run P w = .ok #[] w := by
    cases B <;> simp [Builtin.firstCells, loadCells, loadCellsFrom]
  have hrun : (Builtin.append_ #[t, t] o.type #[.slice A n c, .slice B 0 d]).run P w = .ok (.slice A n c) w := by
    cases A <;> simp [Builtin.append_, run_underlying (elemT_under ht), sizeOf, typeInfo, hi, Builtin.lenOf, h2, hfc, storeCells]
  refine ok_val (u := a.eval x) s (append_run h h1 h3 (by rw [h1]; exact hrun)) (r.eval x)

def isEmptyV (tm : Nat → AV) (y : Operand) : Bool :=
  match avOf tm y with
  | .sl _ _ 0 _ => true
  | .val (.slice none 0 0) => true
  | .bytes [] => true
  | _ => false
theorem isEmptyV_ok {y : Operand} (r : RepT E w tm a) (h : isEmptyV tm y = true) : ∃ A c, a.eval y = .slice A 0 c := by
  unfold isEmptyV at h
  have ry := r.eval y
  split at h
  · rename_i hy
    rw [hy] at ry
    generalize a.eval y = u at ry
    cases ry <;> exact ⟨_, _, rfl⟩
  · rename_i hy
    exact ⟨_, _, eval_val r hy⟩
  · rename_i hy
    rw [hy] at ry
    generalize a.eval y = u at ry
    cases ry with
    | bytes hn hc hm hb =>
      rw [List.length_nil] at hn
      subst hn
      exact ⟨_, _, rfl⟩
  · cases h
def isSliceV (tm : Nat → AV) (y : Operand) : Bool :=
  match avOf tm y with
  | .sl _ _ _ _ => true
  | .val (.slice none 0 0) => true
  | _ => false
theorem isSliceV_ok {y : Operand} (r : RepT E w tm a) (h : isSliceV tm y = true) : ∃ A n c, a.eval y = .slice A n c ∧ n ≤ c := by
  unfold isSliceV at h
  have ry := r.eval y
  split at h
  · rename_i hy
    rw [hy] at ry
    generalize a.eval y = u at ry
    cases ry with
    | slnil => exact ⟨_, _, _, rfl, Nat.le_refl _⟩
    | sl hE hc hl hn hA => exact ⟨_, _, _, rfl, by omega⟩
  · rename_i hy
    exact ⟨_, _, _, eval_val r hy, Nat.le_refl _⟩
  · cases h

end
end Go.Proofs.YtfofhpkafhpicaaGreatDoor

/- An engine for walks: arrays and structs that are compared. -/
namespace Go.Proofs.YtfofhpkafhpicaaGreatDoor
open Go.RowKit

def eqIs (P : Program) (f : AV → AV → Option Bool) (e es : Nat) (l1 l2 : List AV) : List Nat → Option Bool
  | [] => some true
  | i :: is =>
    match partA P e l1 (i * es), partA P e l2 (i * es) with
    | some a, some b => match f a b, eqIs P f e es l1 l2 is with
      | some r, some r' => some (r && r')
      | _, _ => none
    | _, _ => none

def eqFs (P : Program) (f : TypeId → AV → AV → Option Bool) (l1 l2 : List AV) : List Field → Option Bool
  | [] => some true
  | x :: fs =>
    if x.name = "_" then none else
    match partA P x.type l1 x.offset, partA P x.type l2 x.offset with
    | some a, some b => match f x.type a b, eqFs P f l1 l2 fs with
      | some r, some r' => some (r && r')
      | _, _ => none
    | _, _ => none

/-- are two values of a type equal? -/
def eqA (P : Program) : Nat → TypeId → AV → AV → Option Bool
  | 0, _, _, _ => none
  | n + 1, t, x, y =>
    match P.underlying t with
    | some (.int _) => match x, y with
      | .val (.int k a), .val (.int k' b) => if k = k' then some (a == b) else none
      | _, _ => none
    | some .bool => match x, y with
      | .val (.bool a), .val (.bool b) => some (a == b)
      | _, _ => none
    | some .string => match x, y with
      | .val (.string a), .val (.string b) => some (a.toList == b.toList)
      | _, _ => none
    | some (.array m e) =>
      match aggCells x, aggCells y, szT P e with
      | some l1, some l2, some es => eqIs P (eqA P n e) e es l1 l2 (List.range m)
      | _, _, _ => none
    | some (.struct fs) =>
      match aggCells x, aggCells y with
      | some l1, some l2 => if P.stoodInHeld t then none else eqFs P (eqA P n) l1 l2 fs.toList
      | _, _ => none
    | _ => none

section
variable {P : Program} {E : Env} {H : Heap} {w : World} {a : Act} {o : Oper} {nx rid : Nat} {tm : Nat → AV}

theorem szT_cells {t : TypeId} {n : Nat} (h : szT P t = some n) : P.cellsOf t = n ∧ ∃ i, P.info? t = some i := by
  unfold szT at h
  obtain ⟨i, h1, h2⟩ := Option.map_eq_some_iff.1 h
  exact ⟨by simp [Program.cellsOf, h1, h2], i, h1⟩

theorem eqA_ok : ∀ (n d : Nat) (t : TypeId) (x y : AV) (B : Bool) (u v : Value), eqA P n t x y = some B → Rep E w x u → Rep E w y v → (Op.equalIn (d + n) t u v).run P w = .ok B w
  | 0, _, _, _, _, _, _, _, h, _, _ => by cases h
  | n + 1, d, t, x, y, B, u, v, h, rx, ry => by
    simp only [eqA] at h
    split at h
    · rename_i q ht
      split at h
      · rename_i k a k' b
        split at h
        · rename_i hk
          subst hk
          injection h with h
          subst h
          rw [rx.val_inv, ry.val_inv]
          exact run_equalIn_int w (d + n) t k q a b ht
        · cases h
      · cases h
    · rename_i ht
      split at h
      · injection h with h
        subst h
        rw [rx.val_inv, ry.val_inv]
        exact run_equalIn_bool' w (d + n) t _ _ ht
      · cases h
    · rename_i ht
      split at h
      · injection h with h
        subst h
        rw [rx.val_inv, ry.val_inv]
        exact run_equalIn_string w (d + n) t _ _ ht
      · cases h
    · rename_i m e ht
      split at h
      · rename_i l1 l2 es h1 h2 h3
        obtain ⟨hc, i, hi⟩ := szT_cells h3
        obtain ⟨xs, rfl, x1, x2⟩ := aggCells_rep h1 rx
        obtain ⟨ys, rfl, y1, y2⟩ := aggCells_rep h2 ry
        show (Op.equalIn ((d + n) + 1) t (.agg xs) (.agg ys)).run P w = _
        rw [run_equalIn_array w (d + n) xs ys ht hi, hc]
        have key : ∀ (is : List Nat) (B : Bool), eqIs P (eqA P n e) e es l1 l2 is = some B → (Op.eqItems (d + n) e es xs ys is).run P w = .ok B w := by
          intro is
          induction is with
          | nil => intro B h; simp only [eqIs, Option.some.injEq] at h; subst h; simp [Op.eqItems]
          | cons i is ih =>
            intro B h
            simp only [eqIs] at h
            split at h
            · rename_i a b ha hb
              split at h
              · rename_i r r' g1 g2
                injection h with h
                subst h
                obtain ⟨u1, k1, k2⟩ := part_run ha x1 x2
                obtain ⟨u2, k3, k4⟩ := part_run hb y1 y2
                have k5 := eqA_ok n d e a b r u1 u2 g1 k2 k4
                simp only [Op.eqItems, Sem.run_bind, k1, k3, k5, Result.andThen_ok]
                cases r
                · simp
                · simpa using ih r' g2
              · cases h
            · cases h
        exact key _ _ h
      · cases h
    · rename_i fs ht
      split at h
      · rename_i l1 l2 h1 h2
        split at h
        · cases h
        · rename_i hst
          obtain ⟨xs, rfl, x1, x2⟩ := aggCells_rep h1 rx
          obtain ⟨ys, rfl, y1, y2⟩ := aggCells_rep h2 ry
          have hfs : P.fieldsOf t = fs := by simp [Program.fieldsOf, ht]
          show (Op.equalIn ((d + n) + 1) t (.agg xs) (.agg ys)).run P w = _
          rw [run_equalIn_struct w (d + n) t xs ys (by rw [hfs]; exact ht) (by simpa using hst), hfs]
          have key : ∀ (gs : List Field) (B : Bool), eqFs P (eqA P n) l1 l2 gs = some B → (Op.eqFields (d + n) xs ys gs).run P w = .ok B w := by
            intro gs
            induction gs with
            | nil => intro B h; simp only [eqFs, Option.some.injEq] at h; subst h; simp [Op.eqFields]
            | cons g gs ih =>
              intro B h
              simp only [eqFs] at h
              split at h
              · cases h
              · rename_i hn
                split at h
                · rename_i a b ha hb
                  split at h
                  · rename_i r r' g1 g2
                    injection h with h
                    subst h
                    obtain ⟨u1, k1, k2⟩ := part_run ha x1 x2
                    obtain ⟨u2, k3, k4⟩ := part_run hb y1 y2
                    have k5 := eqA_ok n d g.type a b r u1 u2 g1 k2 k4
                    simp only [Op.eqFields, hn, ne_eq, not_false_eq_true, if_true, Sem.run_bind, k1, k3, k5, Result.andThen_ok]
                    cases r
                    · simp
                    · simpa using ih r' g2
                  · cases h
                · cases h
          exact key _ _ h
      · cases h
    · cases h

/-- structs and arrays that are compared -/
def eqAgg (P : Program) (tm : Nat → AV) (ty : TypeId) (x y : Operand) : Option Bool :=
  match P.underlying ty with
  | some (.struct _) => if P.eqGuardType P.depth ty then none else eqA P 12 ty (avOf tm x) (avOf tm y)
  | some (.array _ _) => if P.eqGuardType P.depth ty then none else eqA P 12 ty (avOf tm x) (avOf tm y)
  | _ => none

theorem eqA_agg {n : Nat} {t : TypeId} {x y : AV} {B : Bool} (hu : (∃ fs, P.underlying t = some (.struct fs)) ∨ ∃ m e, P.underlying t = some (.array m e)) (he : eqA P (n + 1) t x y = some B) : (∃ l, aggCells x = some l) ∧ ∃ l, aggCells y = some l := by
  simp only [eqA] at he
  rcases hu with ⟨fs, hu⟩ | ⟨m, e, hu⟩ <;> rw [hu] at he <;> simp only at he <;> split at he
  · rename_i g1 g2; exact ⟨⟨_, g1⟩, _, g2⟩
  · cases he
  · rename_i g1 g2 _; exact ⟨⟨_, g1⟩, _, g2⟩
  · cases he

theorem eqAgg_ok {ty : TypeId} {x y : Operand} {B : Bool} (r : RepT E w tm a) (h : eqAgg P tm ty x y = some B) : ∃ xs ys, a.eval x = .agg xs ∧ a.eval y = .agg ys ∧ P.eqGuardType P.depth ty = false ∧ (Op.equalIn 10000 ty (.agg xs) (.agg ys)).run P w = .ok B w := by
  have key : P.eqGuardType P.depth ty = false → (isAgg : (∃ fs, P.underlying ty = some (.struct fs)) ∨ ∃ m e, P.underlying ty = some (.array m e)) → eqA P 12 ty (avOf tm x) (avOf tm y) = some B →
      ∃ xs ys, a.eval x = .agg xs ∧ a.eval y = .agg ys ∧ P.eqGuardType P.depth ty = false ∧ (Op.equalIn 10000 ty (.agg xs) (.agg ys)).run P w = .ok B w := by
    intro hg hu he
    have h1 := eqA_ok 12 9988 ty _ _ B _ _ he (r.eval x) (r.eval y)
    have := eqA_agg (n := 11) hu he
    obtain ⟨⟨l1, e1⟩, l2, e2⟩ := this
    obtain ⟨xs, hx, _⟩ := aggCells_rep e1 (r.eval x)
    obtain ⟨ys, hy, _⟩ := aggCells_rep e2 (r.eval y)
    rw [hx, hy] at h1
    exact ⟨xs, ys, hx, hy, hg, h1⟩
  unfold eqAgg at h
  split at h
  · rename_i fs hu
    split at h
    · cases h
    · rename_i hg
      exact key (by simpa using hg) (.inl ⟨fs, hu⟩) h
  · rename_i m e hu
    split at h
    · cases h
    · rename_i hg
      exact key (by simpa using hg) (.inr ⟨m, e, hu⟩) h
  · cases h

theorem ok_eqAgg {neg : Bool} {ty : TypeId} {x y : Operand} {tr : TypeId} {B : Bool} (s : Sat E nx H w) (r : RepT E w tm a) (h : o.op = .binOp (if neg then .neq else .eql) ty x y tr) (hc : eqAgg P tm ty x y = some B) : OpOk P o E H a w rid nx ⟨.val (.bool (if neg then !B else B)), [], nx⟩ := by
  obtain ⟨xs, ys, hx, hy, hg, he⟩ := eqAgg_ok r hc
  refine ok_val (u := .bool (if neg then !B else B)) s ?_ (.val _)
  have h1 := run_eqGuard_agg (P := P) w (if neg then .neq else .eql) ty x y xs ys hg
  cases neg
  · simp [execOp, h, hx, hy]
    simp only [Bool.false_eq_true, if_false] at h1
    rw [h1]
    simp [run_eql_struct, he]
  · simp [execOp, h, hx, hy]
    simp only [if_true] at h1
    rw [h1]
    simp [run_neq_struct, he]
end
end Go.Proofs.YtfofhpkafhpicaaGreatDoor

/- An engine for walks: texts: bytes out of a text, a text's bytes appended. -/
namespace Go.Proofs.YtfofhpkafhpicaaGreatDoor
open Go.RowKit

def isStrT (P : Program) (u : TypeId) : Bool := match P.underlying u with | some .string => true | _ => false
theorem isStrT_ok {P : Program} {u : TypeId} (h : isStrT P u = true) : P.underlying u = some .string := by
  unfold isStrT at h
  split at h
  · assumption
  · cases h

theorem strCells_bv (s : ByteArray) : Lib.strCells s = s.data.toList.map bv := rfl

theorem size_toList (s : ByteArray) : s.data.toList.length = s.size := by rw [Array.length_toList]; rfl

/-- append of a text's bytes -/
theorem run_appS {P : Program} (w : World) {t e u : TypeId} (T : ByteTy P t e) (hu : P.underlying u = some .string) (ty : TypeId) (base : Nat) (A : Option Addr) (n c : Nat) (xs : List UInt8) (hown : Own w base e A n c xs)
    (s : ByteArray) (h63 : n + s.size ≤ 1000000000) (hbase : base ≤ w.heap.size) :
    ∃ A' c' w', (Builtin.append_ #[t, u] ty #[.slice A n c, .string s]).run P w = .ok (.slice A' (n + s.size) c') w' ∧ Own w' base e A' (n + s.size) c' (xs ++ s.data.toList) ∧
      w.grownBy w' (Value.slice A n c).ownBlock ∧ ((Value.slice A' (n + s.size) c').ownBlock = (Value.slice A n c).ownBlock ∨ (Value.slice A' (n + s.size) c').ownBlock = some w.heap.size) := by
  obtain ⟨i, hi', hz0, hz1, hz2⟩ := info_parts T.hi
  have hll : (xs ++ s.data.toList).length = n + s.size := by rw [List.length_append, hown.1, size_toList]
  obtain ⟨v', w', h1, h2, h3, h4⟩ := Lib.run_append_own_string (P := P) w base t u ty e i T.ht hu hi' hz0 hz1 hz2 (.slice A n c) n _ hown.2 s (by simp only [maxLen]; omega) (by omega) hbase
  have hob : v'.ownBlock = (Value.slice A n c).ownBlock ∨ v'.ownBlock = some w.heap.size := by
    rcases hown.2.2 with ⟨hv, hn⟩ | ⟨g, cap, cur, hv, hbg, hg, hnc, hcm, hcs, htake⟩
    · by_cases hs0 : s.size = 0
      · have := h4.2 ⟨hv, hs0⟩
        rw [this, hv]
        exact .inl rfl
      · have hr := run_append_nil_string (P := P) w t u ty e i (.int .u8 0) T.ht hu hi' hz0 s (by omega) (by omega) (by rw [hz2]; omega)
        rw [hv, hr] at h1
        injection h1 with h1 _
        rw [← h1]
        exact .inr rfl
    · injection hv with v1 v2 v3
      subst v1 v3
      by_cases hroom : n + s.size ≤ c
      · have hr := Lib.run_append_room_string (P := P) w t u ty e i T.ht hu hi' hz1 g n c cur hg s hroom (by omega)
        rw [hr] at h1
        injection h1 with h1 _
        rw [← h1]
        exact .inl rfl
      · have holds : ∀ j v, (xs.map bv)[j]? = some v → w.cell? ((⟨g, 0, none⟩ : Addr).add j) = some v := hown.2.cells (g := g) rfl
        have hr := Lib.run_append_grow_string (P := P) w t u ty e i (.int .u8 0) T.ht hu hi' hz0 ⟨g, 0, none⟩ n c (xs.map bv) (by rw [hz1]; simpa using hown.1) holds s (by omega) (by omega) (by rw [hz2]; exact growslice_fits (by omega) (by omega))
        rw [hr] at h1
        injection h1 with h1 _
        rw [← h1]
        exact .inr rfl
  rw [strCells_bv, ← List.map_append] at h2
  obtain ⟨A', c', rfl⟩ := own_form h2
  exact ⟨A', c', w', h1, ⟨hll, h2⟩, h3, hob⟩

section
variable {P : Program} {E : Env} {H : Heap} {w : World} {a : Act} {o : Oper} {nx rid : Nat} {tm : Nat → AV}

theorem appendS_text {H0 : Heap} {A : Option Addr} {n c : Nat} {ys : List UInt8} {t u ty e : TypeId} {st : ByteArray} {nx' : Nat} (s0 : Sat E nx H0 w) (s : Sat E nx H w) (h0 : ∀ id o, H id = some o → H0 id = some o)
    (hr : E.f rid = none) (hnx : nx ≤ nx') (hrid : rid < nx') (T : ByteTy P t e) (hu : P.underlying u = some .string) (hown : Own w 0 e A n c ys) (hrow : ∀ b, (Value.slice A n c).ownBlock = some b → Hb E H0 b ∧ ¬ Hb E H b)
    (h63 : ys.length + st.size ≤ 1000000000) :
    ∃ E' w' v, (Builtin.append_ #[t, u] ty #[.slice A n c, .string st]).run P w = .ok v w' ∧ Sat E' nx' (upd H rid (some (objApp e (ys ++ st.data.toList)))) w' ∧
      Rep E' w' (.sl rid 0 (ys.length + st.size) none) v ∧ Ext E H0 w (fun id => id = rid) E' (upd H rid (some (objApp e (ys ++ st.data.toList)))) w' := by
  have hnl := hown.1
  subst hnl
  have hll : (ys ++ st.data.toList).length = ys.length + st.size := by rw [List.length_append, size_toList]
  obtain ⟨A', c', w', hrun, hown', hgr, hat⟩ := run_appS (P := P) w T hu ty 0 A ys.length c ys hown st h63 (Nat.zero_le _)
  rcases hown'.2.2 with ⟨hv, hn0⟩ | ⟨g, cap, cur, hv, _, hgg, hnc, hm, hs, ht⟩
  · injection hv with v1 v2 v3
    subst v1 v3
    have := sat_put (p := .nil) (ob := objApp e (ys ++ st.data.toList)) s0 s h0 hr hnx hrid hrow hgr ⟨by simp only [objApp, Body.len]; rw [hll]; exact hn0, rfl⟩
    refine ⟨_, w', _, hrun, this.1, ?_, this.2⟩
    rw [v2]
    exact .slnil (Env.put_same _ _ _) rfl
  · injection hv with v1 v2 v3
    subst v1 v3
    have hrow' : (Value.slice A ys.length c).ownBlock = some g ∨ w.heap.size ≤ g := by
      rcases hat with hat | hat
      · left; rw [← hat]; rfl
      · right; simp [Value.ownBlock] at hat; omega
    have := sat_put (p := .at_ g c' 1) (ob := objApp e (ys ++ st.data.toList)) s0 s h0 hr hnx hrid hrow hgr ⟨rfl, hrow', by simp only [objApp, Body.len]; rw [hll]; omega, hm, rfl, cur, hgg, by omega, fun i hi j hj => by
      obtain rfl : j = 0 := by omega
      simp only [objApp, Body.len] at hi
      refine ⟨.val (bv (ys ++ st.data.toList)[i]), bv (ys ++ st.data.toList)[i], by simp only [objApp, Body.cell?, if_true, List.getElem?_eq_getElem hi, Option.map_some], ?_, .val _⟩
      have h1 : (cur.toList.take ((ys.length + st.size) * 1))[i]? = some (bv (ys ++ st.data.toList)[i]) := by
        rw [ht, List.getElem?_map, List.getElem?_eq_getElem hi]
        rfl
      rw [List.getElem?_take] at h1
      split at h1
      · simpa using h1
      · cases h1⟩
    refine ⟨_, w', _, hrun, this.1, ?_, this.2⟩
    exact .sl (cap := c') (b := g) (c := c') (sz := 1) (Env.put_same _ _ _) rfl (Nat.le_refl _) hnc (.inr (by simp))

theorem append_run2 {x y : Operand} {t t' : TypeId} {u v : Value} (h : o.op = .call { callee := .builtin .append, args := #[x, y], argTypes := #[t, t'] }) {w' : World} {r : Value} (hx : a.eval x = u) (hy : a.eval y = v)
    (hr : (Builtin.append_ #[t, t'] o.type #[u, v]).run P w = .ok r w') : (execOp a.eval o).run P w = .ok (.value r) w' := by
  simp [execOp, h, resolve, invoke, builtin, hx, hy, hr]

theorem ok_appendStrSl {x y : Operand} {t t' e : TypeId} {id n : Nat} {ob : AObj} {ys : List UInt8} {st : ByteArray} {nx' : Nat} (s : Sat E nx H w) (r : RepT E w tm a) (hr : E.f rid = none) (hnx : nx ≤ nx') (hrid : rid < nx') (h : o.op = .call { callee := .builtin .append, args := #[x, y], argTypes := #[t, t'] })
    (ht : elemT P t = some e) (hb : byteTB P e = true) (hstr : P.underlying t' = some .string) (hx : avOf tm x = .sl id 0 n none) (hid : H id = some ob) (hob : ob.body = .bytes ys) (hsz : ob.sz = 1) (hfz : ob.fz = false) (hot : ob.t = e) (hn : ys.length = n)
    (hy : avOf tm y = .val (.string st)) (h63 : ys.length + st.size ≤ 1000000000) :
    OpOk P o E H a w rid nx ⟨.sl rid 0 (ys.length + st.size) none, [(id, none), (rid, some (objApp e (ys ++ st.data.toList)))], nx'⟩ := by
  have hv := eval_val r hy
  have rx := r.eval x
  rw [hx] at rx
  generalize hu : a.eval x = u at rx
  have s1 : Sat E nx (upd H id none) w := s.sub fun k q hk => by
    by_cases e : k = id
    · subst e; rw [upd_same] at hk; cases hk
    · rwa [upd_other _ _ e] at hk
  have h0 : ∀ k q, upd H id none k = some q → H k = some q := fun k q hk => by
    by_cases e : k = id
    · subst e; rw [upd_same] at hk; cases hk
    · rwa [upd_other _ _ e] at hk
  have fin : ∀ A c, u = .slice A n c → Own w 0 e A n c ys → (∀ b, (Value.slice A n c).ownBlock = some b → Hb E H b ∧ ¬ Hb E (upd H id none) b) →
      OpOk P o E H a w rid nx ⟨.sl rid 0 (ys.length + st.size) none, [(id, none), (rid, some (objApp e (ys ++ st.data.toList)))], nx'⟩ := by
    intro A c hA hown hrow
    subst hA
    obtain ⟨E', w', u', h1, h2, h3, h4⟩ := appendS_text (ty := o.type) s s1 h0 hr hnx hrid (byteTB_ok hb ht) hstr hown hrow h63
    exact .value E' w' u' (append_run2 h hu hv h1) ⟨h2, h3, h4.weaken fun id e => .inl e, hnx⟩
  cases rx with
  | slnil hE hl =>
    have : ys = [] := List.eq_nil_of_length_eq_zero hn
    subst this
    exact fin none 0 rfl (Own.none_ w 0 e) (fun b hb => by simp [Value.ownBlock] at hb)
  | sl hE hc hl hn' hA =>
    rename_i b c sz cap A
    have ro := s.at_ hid hE
    have h1 : sz = ob.sz := ro.1
    obtain rfl : sz = 1 := by omega
    simp only [Option.getD_none, Nat.add_zero] at hc
    subst hc
    obtain rfl := hA.resolve_left (by omega)
    simp only [Nat.zero_mul] at fin ⊢
    obtain ⟨_, _, hlen, hmx, _, cur, fr, hg, hs, hfr, hcell⟩ := ro
    have hfr0 : fr = (0, 0) := hfr.resolve_right fun h => by rw [hfz] at h; cases h.1
    subst hfr0
    rw [hot] at hg
    refine fin (some ⟨b, 0, none⟩) cap (by simp) ⟨hn, by simp [hn], .inr ⟨b, cap, cur, rfl, Nat.zero_le _, hg, hn', hmx, by omega, ?_⟩⟩ (fun b' hb' => ?_)
    · apply List.ext_getElem?
      intro k
      rw [List.getElem?_take]
      by_cases hk : k < n
      · have hk' : k < ob.body.len := by rw [hob]; simp only [Body.len]; omega
        obtain ⟨a', v, e1, e2, e3⟩ := hcell k hk' 0 (by omega)
        rw [hob] at e1
        have hky : k < ys.length := by omega
        simp only [Body.cell?, if_true, List.getElem?_eq_getElem hky, Option.map_some, Option.some.injEq] at e1
        subst e1
        have := e3.val_inv
        subst this
        simp only [Nat.mul_one, Nat.add_zero] at e2
        simp [hk, hky, e2]
      · rw [if_neg (by omega), List.getElem?_eq_none (by simp; omega)]
    · simp only [Value.ownBlock, Option.some.injEq] at hb'
      subst hb'
      refine ⟨⟨id, ob, cap, 1, hid, hE⟩, ?_⟩
      rintro ⟨k, q, c2, z2, hk, hf⟩
      have hne : k ≠ id := fun e => by subst e; rw [upd_same] at hk; cases hk
      rw [upd_other _ _ hne] at hk
      exact hne (s.inj _ _ _ _ _ _ _ _ _ hk hid hf hE)

theorem ok_appendStrNil {x y : Operand} {t t' e : TypeId} {st : ByteArray} {nx' : Nat} (s : Sat E nx H w) (r : RepT E w tm a) (hr : E.f rid = none) (hnx : nx ≤ nx') (hrid : rid < nx') (h : o.op = .call { callee := .builtin .append, args := #[x, y], argTypes := #[t, t'] })
    (ht : elemT P t = some e) (hb : byteTB P e = true) (hstr : P.underlying t' = some .string) (hx : avOf tm x = .val (.slice none 0 0)) (hy : avOf tm y = .val (.string st)) (h63 : st.size ≤ 1000000000) :
    OpOk P o E H a w rid nx ⟨.sl rid 0 st.size none, [(rid, some (objApp e st.data.toList))], nx'⟩ := by
  obtain ⟨E', w', u', h1, h2, h3, h4⟩ := appendS_text (ty := o.type) s s (fun _ _ h => h) hr hnx hrid (byteTB_ok hb ht) hstr (Own.none_ w 0 e) (fun b hb => by simp [Value.ownBlock] at hb) (by simpa using h63)
  simp only [List.nil_append, List.length_nil, Nat.zero_add] at h2 h3 h4
  exact .value E' w' u' (append_run2 h (eval_val r hx) (eval_val r hy) h1) ⟨h2, h3, h4.weaken fun id e => .inl e, hnx⟩

/-- a text's byte -/
theorem ok_indexStr {x ix : Operand} {t : TypeId} {st : ByteArray} {k : IntKind} {z : Int} (s : Sat E nx H w) (r : RepT E w tm a) (h : o.op = .index t x ix) (ht : P.underlying t = some .string) (hx : avOf tm x = .val (.string st)) (hi : avOf tm ix = .val (.int k z)) (hz : 0 ≤ z ∧ z.toNat < st.size) :
    OpOk P o E H a w rid nx ⟨.val (.int .u8 ((st.data.toList.getD z.toNat 0).toNat : Int)), [], nx⟩ := by
  refine ok_val s ?_ (.val _)
  have hb : st[z.toNat]? = some (st.data.toList.getD z.toNat 0) := by
    have hz2 : z.toNat < st.data.size := hz.2
    have e1 : st[z.toNat]'hz.2 = st.data[z.toNat]'hz2 := rfl
    rw [getElem?_pos st z.toNat hz.2, e1, List.getD_eq_getElem?_getD, Array.getElem?_toList, Array.getElem?_eq_getElem hz2, Option.getD_some]
  simp [execOp, h, eval_val r hx, eval_val r hi, Instr.index, asIntOf, run_underlying ht, hz.1, hb]

/-- bytes out of a text -/
theorem ok_bytesOfStr {x : Operand} {t dst e : TypeId} {st : ByteArray} {nx' : Nat} (s : Sat E nx H w) (r : RepT E w tm a) (hr : E.f rid = none) (hnx : nx ≤ nx') (hrid : rid < nx') (h : o.op = .convert t dst x) (ht : P.underlying t = some .string) (hd : elemT P dst = some e) (hb : byteTB P e = true)
    (hx : avOf tm x = .val (.string st)) (h63 : st.size ≤ 1000000000) :
    OpOk P o E H a w rid nx ⟨.sl rid 0 st.size none, [(rid, some { objApp e st.data.toList with fz := true })], nx'⟩ := by
  have T := byteTB_ok hb hd
  have hrun := run_bytes_of_string (P := P) w t dst e st ht T.ht T.hb
  have hge := grownCap_ge w st.size 0 e
  have hcm : grownCap w st.size 0 e ≤ maxLen := grownCap_le_maxLen w st.size 0 e (by simp only [maxLen]; omega)
  generalize grownCap w st.size 0 e = c at *
  have hcs : (bytesRow st c).size = c := by
    unfold bytesRow
    rw [Array.size_append, Array.size_map, Array.size_replicate]
    have : st.data.size = st.size := rfl
    omega
  have hnew := sat_new (w' := w.drew.alloc (.cells (bytesRow st c) e ((bytesRow st c).size, (bytesRow st c).size + 1))) (o := { objApp e st.data.toList with fz := true }) (c := c) s hr hnx hrid rfl ⟨rfl, rfl, rfl⟩ (by simp only [objApp]; omega)
    (by simp only [objApp, Body.len]; rw [size_toList]; exact hge) hcm (fun h => by simp [objApp] at h) (.inr ⟨rfl, by simp only [objApp, hcs]; omega⟩) (fun i hi j hj => by
      simp only [objApp] at hj
      obtain rfl : j = 0 := by omega
      simp only [objApp, Body.len] at hi
      refine ⟨.val (bv st.data.toList[i]), bv st.data.toList[i], by simp only [objApp, Body.cell?, if_true, List.getElem?_eq_getElem hi, Option.map_some], ?_, .val _⟩
      have hi' : i < st.data.size := by simpa using hi
      have hi2 : i < st.size := hi'
      simp [objApp, bytesRow, bv, Array.getElem?_append, hi2])
  refine .value _ _ _ ?_ ⟨hnew.1, .sl (cap := c) (b := w.heap.size) (c := c) (sz := 1) (Env.put_same _ _ _) rfl (Nat.le_refl _) hge (.inr (by rw [Nat.zero_mul])), hnew.2.weaken fun id e => .inl e, hnx⟩
  simp [execOp, h, eval_val r hx, hrun]
end
end Go.Proofs.YtfofhpkafhpicaaGreatDoor

/- An engine for walks: append of zeros (append(x, make(..)...)). -/
namespace Go.Proofs.YtfofhpkafhpicaaGreatDoor
open Go.RowKit

def zc (k : Nat) : List Value := List.replicate k (.int .u8 0)
theorem zc_length (k : Nat) : (zc k).length = k := List.length_replicate
theorem zc_oneCell (k : Nat) : ∀ u ∈ zc k, u.oneCell' = true := fun u hu => by
  rw [List.eq_of_mem_replicate hu]
  rfl
theorem zc_cells (k : Nat) : Builtin.zeroCells (Value.int .u8 0).cells k = (zc k).toArray := by
  apply Array.ext
  · simp [Builtin.zeroCells, zc, Value.cells]
  · intro i h1 h2
    simp [Builtin.zeroCells, zc, Value.cells, Nat.mod_one]
theorem zc_bv (k : Nat) : zc k = (List.replicate k (0 : UInt8)).map bv := by
  rw [List.map_replicate]
  rfl
section
variable {P : Program} (w : World)
theorem run_append_room_zeros (t u ty e : TypeId) (i : TypeInfo) (ht : P.underlying t = some (.slice e)) {kn : IntKind} (hu : P.underlying u = some (.int kn)) (hi : P.info? e = some i) (hs1 : i.size = 1) (hz : i.zero = some (.int .u8 0)) (hby : i.bytes = 1)
    (g sLen sCap : Nat) (cur : Array Value) (hg : w.heap[g]? = some (.cells cur e (0, 0))) (k : Nat) (hk : 0 < k) (kq : IntKind)
    (hroom : sLen + k ≤ sCap) (hfit : sLen + k ≤ cur.size) (hk9 : k ≤ 140737488355328) :
    (Builtin.append_ #[t, u] ty #[.slice (some ⟨g, 0, none⟩) sLen sCap, .int kq (k : Int)]).run P w =
      .ok (.slice (some ⟨g, 0, none⟩) (sLen + k) sCap) (w.setRow g (cur.toList.take sLen ++ zc k ++ cur.toList.drop (sLen + k)).toArray) := by
  have hst := run_storeCells_at P g sLen e (zc k) 0 cur w hg (by simpa [zc_length] using hfit) (zc_oneCell k)
  simp only [Nat.add_zero, zc_length] at hst
  have hw : IntKind.i64.wrap (k : Int) = k := by rw [IntKind.wrap_i64]; omega
  have h48i : ¬ (281474976710656 < (k : Int)) := by omega
  have hneg : ¬ ((k : Int) < 0) := by omega
  have hk0 : ¬ k = 0 := by omega
  simp [Builtin.append_, run_underlying ht, run_underlying hu, sizeOf, typeInfo, zeroValue, hi, hz, hs1, hby, asInt, asIntOf, hw, hneg, h48i, hk0, hroom, zc_cells, Addr.add_lit, hst]
theorem run_append_own_zeros (base : Nat) (t u ty e : TypeId) (i : TypeInfo) (ht : P.underlying t = some (.slice e)) {kn : IntKind} (hu : P.underlying u = some (.int kn)) (hi : P.info? e = some i) (hz : i.zero = some (.int .u8 0))
    (hsize : i.size = 1) (hby : i.bytes = 1)
    (v : Value) (n : Nat) (xs : List Value) (hown : w.ownsRow base e 1 v n xs) (k : Nat) (hk : 0 < k) (kq : IntKind)
    (h63 : n + k ≤ maxLen) (hbytes : n + k ≤ 140737488355328) (hbase : base ≤ w.heap.size) :
    ∃ v' w', (Builtin.append_ #[t, u] ty #[v, .int kq (k : Int)]).run P w = .ok v' w' ∧ w'.ownsRow base e 1 v' (n + k) (xs ++ zc k) ∧ w.grownBy w' v.ownBlock ∧
      (v' = .slice none 0 0 ↔ v = .slice none 0 0 ∧ k = 0) := by
  have hsmall : n + k ≤ 9223372036854775807 := by simp only [maxLen] at h63; omega
  have hxl : xs.length = n := by simpa using hown.1
  have hlen : (xs ++ zc k).length = (n + k) * 1 := by rw [List.length_append, hxl, zc_length, Nat.mul_one]
  have grown : ∀ (old : Nat), old < n + k → ∀ (row : Option Nat),
      (w.drew.alloc (.cells (xs.toArray ++ (zc k).toArray ++ Builtin.zeroCells (Value.int .u8 0).cells (grownCap w (n + k) old e - (n + k))) e)).ownsRow base e 1
        (.slice (some ⟨w.heap.size, 0, none⟩) (n + k) (grownCap w (n + k) old e)) (n + k) (xs ++ zc k) ∧
      w.grownBy (w.drew.alloc (.cells (xs.toArray ++ (zc k).toArray ++ Builtin.zeroCells (Value.int .u8 0).cells (grownCap w (n + k) old e - (n + k))) e)) row := by
    intro old ho row
    have hge := grownCap_ge w (n + k) old e
    have hcm : grownCap w (n + k) old e ≤ maxLen := grownCap_le_maxLen w (n + k) old e h63
    refine ⟨⟨hlen, .inr ⟨w.heap.size, _, _, rfl, hbase, heap_alloc_new w.drew _, hge, hcm, ?_, ?_⟩⟩, ⟨rfl, rfl, rfl, by simp, fun k hk _ => heap_alloc_old w.drew _ hk⟩⟩
    · have hz1 : (Value.int IntKind.u8 0).cells.size = 1 := rfl
      simp only [Array.size_append, List.size_toArray, size_zeroCells, hz1, hxl, zc_length]
      omega
    · simp only [Array.toList_append, List.append_assoc]
      rw [← List.append_assoc, ← hlen]
      exact List.take_left
  rcases hown.2 with ⟨rfl, rfl⟩ | ⟨g, cap, cur, rfl, hbg, hg, hnc, hcm, hcs, htake⟩
  · have hx : xs = [] := List.eq_nil_of_length_eq_zero hxl
    subst hx
    by_cases hm : k = 0
    · omega
    · have hr := Lib.run_append_nil_zeros (P := P) w t u ty e i (.int .u8 0) kq kn ht hu hi hz k hk (by rw [hsize]; decide) (by omega) (by rw [hby]; omega)
      have hgr := grown 0 (by omega) (Value.ownBlock (.slice none 0 0))
      simp only [Nat.zero_add, List.nil_append, Array.empty_append] at hgr ⊢
      rw [zc_cells] at hr
      exact ⟨_, _, hr, hgr.1, hgr.2, by simp [hm]⟩
  · by_cases hroom : n + k ≤ cap
    · have hcs' : cur.size = cap := by simpa using hcs
      have hr := run_append_room_zeros (P := P) w t u ty e i ht hu hi hsize hz hby g n cap cur hg k hk kq hroom (by omega) (by omega)
      refine ⟨_, _, hr, ⟨hlen, .inr ⟨g, cap, _, rfl, hbg, setRow_heap w g cur _ e _ hg, hroom, hcm, ?_, ?_⟩⟩, ⟨rfl, rfl, rfl, by simp, fun k _ hk => setRow_other w g k _ (fun e => hk (by simp [Value.ownBlock, e]))⟩, by simp⟩
      · simp only [List.size_toArray, List.length_append, List.length_take, List.length_drop, Array.length_toList, zc_length]
        omega
      · have ht' : cur.toList.take n = xs := by simpa using htake
        rw [ht', ← hlen]
        exact List.take_left
    · have holds : ∀ j u, xs[j]? = some u → w.cell? ((⟨g, 0, none⟩ : Addr).add j) = some u := hown.cells (g := g) rfl
      have hr := Lib.run_append_grow_zeros (P := P) w t u ty e i (.int .u8 0) kq kn ht hu hi hz (some ⟨g, 0, none⟩) n cap xs (run_firstCells_some (P := P) w.drew i.size n ⟨g, 0, none⟩ n cap xs (by rw [hsize]; simpa using hxl) (by simpa using holds)) k hk (by rw [hsize]; decide) (by omega) (by omega) (by rw [hby]; omega) (by rw [hby]; exact growslice_fits (by omega) (by omega))
      rw [zc_cells] at hr
      have hgr := grown cap (by omega) (Value.ownBlock (.slice (some ⟨g, 0, none⟩) n cap))
      exact ⟨_, _, hr, hgr.1, hgr.2, by simp⟩
end

/-- append of zeros -/
theorem run_appZ {P : Program} (w : World) {t e u : TypeId} (T : ByteTy P t e) {kn : IntKind} (hu : P.underlying u = some (.int kn)) (ty : TypeId) (base : Nat) (A : Option Addr) (n c : Nat) (xs : List UInt8) (hown : Own w base e A n c xs)
    (zn : Nat) (hk : 0 < zn) (kq : IntKind) (h63 : n + zn ≤ 1000000000) (hbase : base ≤ w.heap.size) :
    ∃ A' c' w', (Builtin.append_ #[t, u] ty #[.slice A n c, .int kq (zn : Int)]).run P w = .ok (.slice A' (n + zn) c') w' ∧ Own w' base e A' (n + zn) c' (xs ++ (List.replicate zn (0 : UInt8))) ∧
      w.grownBy w' (Value.slice A n c).ownBlock ∧ ((Value.slice A' (n + zn) c').ownBlock = (Value.slice A n c).ownBlock ∨ (Value.slice A' (n + zn) c').ownBlock = some w.heap.size) := by
  obtain ⟨i, hi', hz0, hz1, hz2⟩ := info_parts T.hi
  have hll : (xs ++ (List.replicate zn (0 : UInt8))).length = n + zn := by rw [List.length_append, hown.1, List.length_replicate]
  obtain ⟨v', w', h1, h2, h3, h4⟩ := run_append_own_zeros (P := P) w base t u ty e i T.ht hu hi' hz0 hz1 hz2 (.slice A n c) n _ hown.2 zn hk kq (by simp only [maxLen]; omega) (by omega) hbase
  have hob : v'.ownBlock = (Value.slice A n c).ownBlock ∨ v'.ownBlock = some w.heap.size := by
    rcases hown.2.2 with ⟨hv, hn⟩ | ⟨g, cap, cur, hv, hbg, hg, hnc, hcm, hcs, htake⟩
    · by_cases hs0 : zn = 0
      · have := h4.2 ⟨hv, hs0⟩
        rw [this, hv]
        exact .inl rfl
      · have hr := Lib.run_append_nil_zeros (P := P) w t u ty e i (.int .u8 0) kq kn T.ht hu hi' hz0 zn hk (by rw [hz1]; decide) (by omega) (by rw [hz2]; omega)
        rw [hv, hr] at h1
        injection h1 with h1 _
        rw [← h1]
        exact .inr rfl
    · injection hv with v1 v2 v3
      subst v1 v3
      by_cases hroom : n + zn ≤ c
      · have hr := run_append_room_zeros (P := P) w t u ty e i T.ht hu hi' hz1 hz0 hz2 g n c cur hg zn hk kq hroom (by omega) (by omega)
        rw [hr] at h1
        injection h1 with h1 _
        rw [← h1]
        exact .inl rfl
      · have holds : ∀ j v, (xs.map bv)[j]? = some v → w.cell? ((⟨g, 0, none⟩ : Addr).add j) = some v := hown.2.cells (g := g) rfl
        have hr := Lib.run_append_grow_zeros (P := P) w t u ty e i (.int .u8 0) kq kn T.ht hu hi' hz0 (some ⟨g, 0, none⟩) n c (xs.map bv) (run_firstCells_some (P := P) w.drew i.size n ⟨g, 0, none⟩ n c (xs.map bv) (by rw [hz1]; simpa using hown.1) (by simpa using holds)) zn hk (by rw [hz1]; decide) (by omega) (by omega) (by rw [hz2]; omega) (by rw [hz2]; exact growslice_fits (by omega) (by omega))
        rw [hr] at h1
        injection h1 with h1 _
        rw [← h1]
        exact .inr rfl
  rw [zc_bv, ← List.map_append] at h2
  obtain ⟨A', c', rfl⟩ := own_form h2
  exact ⟨A', c', w', h1, ⟨hll, h2⟩, h3, hob⟩

section
variable {P : Program} {E : Env} {H : Heap} {w : World} {a : Act} {o : Oper} {nx rid : Nat} {tm : Nat → AV}

theorem appendZ_text {H0 : Heap} {A : Option Addr} {n c : Nat} {ys : List UInt8} {t u ty e : TypeId} {zn : Nat} {kq : IntKind} {nx' : Nat} (s0 : Sat E nx H0 w) (s : Sat E nx H w) (h0 : ∀ id o, H id = some o → H0 id = some o)
    (hr : E.f rid = none) (hnx : nx ≤ nx') (hrid : rid < nx') (T : ByteTy P t e) {kn : IntKind} (hu : P.underlying u = some (.int kn)) (hown : Own w 0 e A n c ys) (hrow : ∀ b, (Value.slice A n c).ownBlock = some b → Hb E H0 b ∧ ¬ Hb E H b)
    (hk0 : 0 < zn) (h63 : ys.length + zn ≤ 1000000000) :
    ∃ E' w' v, (Builtin.append_ #[t, u] ty #[.slice A n c, .int kq (zn : Int)]).run P w = .ok v w' ∧ Sat E' nx' (upd H rid (some (objApp e (ys ++ (List.replicate zn (0 : UInt8)))))) w' ∧
      Rep E' w' (.sl rid 0 (ys.length + zn) none) v ∧ Ext E H0 w (fun id => id = rid) E' (upd H rid (some (objApp e (ys ++ (List.replicate zn (0 : UInt8)))))) w' := by
  have hnl := hown.1
  subst hnl
  have hll : (ys ++ (List.replicate zn (0 : UInt8))).length = ys.length + zn := by rw [List.length_append, List.length_replicate]
  obtain ⟨A', c', w', hrun, hown', hgr, hat⟩ := run_appZ (P := P) w T hu ty 0 A ys.length c ys hown zn hk0 kq h63 (Nat.zero_le _)
  rcases hown'.2.2 with ⟨hv, hn0⟩ | ⟨g, cap, cur, hv, _, hgg, hnc, hm, hs, ht⟩
  · injection hv with v1 v2 v3
    subst v1 v3
    have := sat_put (p := .nil) (ob := objApp e (ys ++ (List.replicate zn (0 : UInt8)))) s0 s h0 hr hnx hrid hrow hgr ⟨by simp only [objApp, Body.len]; rw [hll]; exact hn0, rfl⟩
    refine ⟨_, w', _, hrun, this.1, ?_, this.2⟩
    rw [v2]
    exact .slnil (Env.put_same _ _ _) rfl
  · injection hv with v1 v2 v3
    subst v1 v3
    have hrow' : (Value.slice A ys.length c).ownBlock = some g ∨ w.heap.size ≤ g := by
      rcases hat with hat | hat
      · left; rw [← hat]; rfl
      · right; simp [Value.ownBlock] at hat; omega
    have := sat_put (p := .at_ g c' 1) (ob := objApp e (ys ++ (List.replicate zn (0 : UInt8)))) s0 s h0 hr hnx hrid hrow hgr ⟨rfl, hrow', by simp only [objApp, Body.len]; rw [hll]; omega, hm, rfl, cur, hgg, by omega, fun i hi j hj => by
      obtain rfl : j = 0 := by omega
      simp only [objApp, Body.len] at hi
      refine ⟨.val (bv (ys ++ (List.replicate zn (0 : UInt8)))[i]), bv (ys ++ (List.replicate zn (0 : UInt8)))[i], by simp only [objApp, Body.cell?, if_true, List.getElem?_eq_getElem hi, Option.map_some], ?_, .val _⟩
      have h1 : (cur.toList.take ((ys.length + zn) * 1))[i]? = some (bv (ys ++ (List.replicate zn (0 : UInt8)))[i]) := by
        rw [ht, List.getElem?_map, List.getElem?_eq_getElem hi]
        rfl
      rw [List.getElem?_take] at h1
      split at h1
      · simpa using h1
      · cases h1⟩
    refine ⟨_, w', _, hrun, this.1, ?_, this.2⟩
    exact .sl (cap := c') (b := g) (c := c') (sz := 1) (Env.put_same _ _ _) rfl (Nat.le_refl _) hnc (.inr (by simp))

theorem ok_appendZSl {x y : Operand} {t t' e : TypeId} {id n : Nat} {ob : AObj} {ys : List UInt8} {zn : Nat} {kq : IntKind} {nx' : Nat} (s : Sat E nx H w) (r : RepT E w tm a) (hr : E.f rid = none) (hnx : nx ≤ nx') (hrid : rid < nx') (h : o.op = .call { callee := .builtin .append, args := #[x, y], argTypes := #[t, t'] })
    (ht : elemT P t = some e) (hb : byteTB P e = true) {kn : IntKind} (hstr : P.underlying t' = some (.int kn)) (hx : avOf tm x = .sl id 0 n none) (hid : H id = some ob) (hob : ob.body = .bytes ys) (hsz : ob.sz = 1) (hfz : ob.fz = false) (hot : ob.t = e) (hn : ys.length = n)
    (hy : avOf tm y = .val (.int kq (zn : Int))) (hk0 : 0 < zn) (h63 : ys.length + zn ≤ 1000000000) :
    OpOk P o E H a w rid nx ⟨.sl rid 0 (ys.length + zn) none, [(id, none), (rid, some (objApp e (ys ++ (List.replicate zn (0 : UInt8)))))], nx'⟩ := by
  have hv := eval_val r hy
  have rx := r.eval x
  rw [hx] at rx
  generalize hu : a.eval x = u at rx
  have s1 : Sat E nx (upd H id none) w := s.sub fun k q hk => by
    by_cases e : k = id
    · subst e; rw [upd_same] at hk; cases hk
    · rwa [upd_other _ _ e] at hk
  have h0 : ∀ k q, upd H id none k = some q → H k = some q := fun k q hk => by
    by_cases e : k = id
    · subst e; rw [upd_same] at hk; cases hk
    · rwa [upd_other _ _ e] at hk
  have fin : ∀ A c, u = .slice A n c → Own w 0 e A n c ys → (∀ b, (Value.slice A n c).ownBlock = some b → Hb E H b ∧ ¬ Hb E (upd H id none) b) →
      OpOk P o E H a w rid nx ⟨.sl rid 0 (ys.length + zn) none, [(id, none), (rid, some (objApp e (ys ++ (List.replicate zn (0 : UInt8)))))], nx'⟩ := by
    intro A c hA hown hrow
    subst hA
    obtain ⟨E', w', u', h1, h2, h3, h4⟩ := appendZ_text (ty := o.type) s s1 h0 hr hnx hrid (byteTB_ok hb ht) hstr hown hrow hk0 h63
    exact .value E' w' u' (append_run2 h hu hv h1) ⟨h2, h3, h4.weaken fun id e => .inl e, hnx⟩
  cases rx with
  | slnil hE hl =>
    have : ys = [] := List.eq_nil_of_length_eq_zero hn
    subst this
    exact fin none 0 rfl (Own.none_ w 0 e) (fun b hb => by simp [Value.ownBlock] at hb)
  | sl hE hc hl hn' hA =>
    rename_i b c sz cap A
    have ro := s.at_ hid hE
    have h1 : sz = ob.sz := ro.1
    obtain rfl : sz = 1 := by omega
    simp only [Option.getD_none, Nat.add_zero] at hc
    subst hc
    obtain rfl := hA.resolve_left (by omega)
    simp only [Nat.zero_mul] at fin ⊢
    obtain ⟨_, _, hlen, hmx, _, cur, fr, hg, hs, hfr, hcell⟩ := ro
    have hfr0 : fr = (0, 0) := hfr.resolve_right fun h => by rw [hfz] at h; cases h.1
    subst hfr0
    rw [hot] at hg
    refine fin (some ⟨b, 0, none⟩) cap (by simp) ⟨hn, by simp [hn], .inr ⟨b, cap, cur, rfl, Nat.zero_le _, hg, hn', hmx, by omega, ?_⟩⟩ (fun b' hb' => ?_)
    · apply List.ext_getElem?
      intro k
      rw [List.getElem?_take]
      by_cases hk : k < n
      · have hk' : k < ob.body.len := by rw [hob]; simp only [Body.len]; omega
        obtain ⟨a', v, e1, e2, e3⟩ := hcell k hk' 0 (by omega)
        rw [hob] at e1
        have hky : k < ys.length := by omega
        simp only [Body.cell?, if_true, List.getElem?_eq_getElem hky, Option.map_some, Option.some.injEq] at e1
        subst e1
        have := e3.val_inv
        subst this
        simp only [Nat.mul_one, Nat.add_zero] at e2
        simp [hk, hky, e2]
      · rw [if_neg (by omega), List.getElem?_eq_none (by simp; omega)]
    · simp only [Value.ownBlock, Option.some.injEq] at hb'
      subst hb'
      refine ⟨⟨id, ob, cap, 1, hid, hE⟩, ?_⟩
      rintro ⟨k, q, c2, z2, hk, hf⟩
      have hne : k ≠ id := fun e => by subst e; rw [upd_same] at hk; cases hk
      rw [upd_other _ _ hne] at hk
      exact hne (s.inj _ _ _ _ _ _ _ _ _ hk hid hf hE)

theorem ok_appendZNil {x y : Operand} {t t' e : TypeId} {zn : Nat} {kq : IntKind} {nx' : Nat} (s : Sat E nx H w) (r : RepT E w tm a) (hr : E.f rid = none) (hnx : nx ≤ nx') (hrid : rid < nx') (h : o.op = .call { callee := .builtin .append, args := #[x, y], argTypes := #[t, t'] })
    (ht : elemT P t = some e) (hb : byteTB P e = true) {kn : IntKind} (hstr : P.underlying t' = some (.int kn)) (hx : avOf tm x = .val (.slice none 0 0)) (hy : avOf tm y = .val (.int kq (zn : Int))) (hk0 : 0 < zn) (h63 : zn ≤ 1000000000) :
    OpOk P o E H a w rid nx ⟨.sl rid 0 zn none, [(rid, some (objApp e (List.replicate zn (0 : UInt8))))], nx'⟩ := by
  obtain ⟨E', w', u', h1, h2, h3, h4⟩ := appendZ_text (ty := o.type) s s (fun _ _ h => h) hr hnx hrid (byteTB_ok hb ht) hstr (Own.none_ w 0 e) (fun b hb => by simp [Value.ownBlock] at hb) hk0 (by simpa using h63)
  simp only [List.nil_append, List.length_nil, Nat.zero_add] at h2 h3 h4
  exact .value E' w' u' (append_run2 h (eval_val r hx) (eval_val r hy) h1) ⟨h2, h3, h4.weaken fun id e => .inl e, hnx⟩
end

section
variable {P : Program} {E : Env} {H : Heap} {w : World} {a : Act} {o : Oper} {nx rid : Nat} {tm : Nat → AV}
/-- a new slice of values that fill one cell each -/
theorem ok_makeVals {t e : TypeId} {x y : Operand} {n k : Nat} {i : TypeInfo} {z : Value} {nx' : Nat} (s : Sat E nx H w) (r : RepT E w tm a) (hr : E.f rid = none) (hnx : nx ≤ nx') (hrid : rid < nx') (h : o.op = .makeSlice t x y) (ht : elemT P t = some e)
    (hi : P.info? e = some i) (hi1 : i.bytes = k) (hi2 : i.size = 1) (hi3 : i.zero = some z) (hz : z.cells = #[z]) (hx : avOf tm x = .val (.int .i64 n)) (hy : avOf tm y = .val (.int .i64 n)) (hn : n * k ≤ 1000000000) (hn' : n ≤ 1000000000) :
    OpOk P o E H a w rid nx ⟨.sl rid 0 n none, [(rid, some (objRows e 1 n (List.replicate n (.val z))))], nx'⟩ := by
  have hp := new_rows (t := e) (sz := 1) (n := n) (cs := (List.replicate n z).toArray) (l := List.replicate n (.val z)) s hr hnx hrid (by simp) (by unfold maxLen; omega)
    ⟨by simp, fun k b v hb hv => by
      have h1 := List.eq_of_mem_replicate (List.mem_of_getElem? hb)
      have h2 : v = z := by
        simp only [List.getElem?_toArray] at hv
        exact List.eq_of_mem_replicate (List.mem_of_getElem? hv)
      rw [h1, h2]
      exact .val _⟩
  have hvx := eval_val r hx
  have hvy := eval_val r hy
  refine .value _ _ _ ?_ hp
  have hw : IntKind.i64.wrap (n : Int) = n := IntWalk.i64_in (n : Int) (by omega)
  have hz0 : (zeroValue e).run P w = .ok z w := by simp [zeroValue, run_info hi, hi3]
  have hs0 : (sizeOf e).run P w = .ok 1 w := by simp [sizeOf, run_info hi, hi2]
  simp only [execOp, h, Instr.makeSlice, Sem.run_bind, elemT_run ht, Result.andThen_ok, hvx, hvy, asInt, asIntOf, Sem.run_pure, run_info hi, hi1, hw]
  have g1 : ¬ ((n : Int) < 0) := by omega
  have g3 : ¬ (n * k > roomBytes) := by unfold roomBytes; omega
  by_cases h0 : n = 0
  · subst h0
    have hre : ∀ f : Nat → Value, (Array.range 0).map f = #[] := fun f => by
      apply Array.eq_empty_of_size_eq_zero
      simp
    simp [askRoom, roomBytes, hs0, newRow, hre]
  · have g4 : ¬ (281474976710656 < (k : Int) * (n : Int)) := by
      rw [← Int.natCast_mul, Nat.mul_comm]
      omega
    simp [askRoom, hs0, hz0, newRow, hz, g1, g3, g4, h0]
    congr 2
    apply Array.ext_getElem?
    intro j
    by_cases hj : j < n
    · simp [hj, Nat.mod_one]
    · simp [hj]
end
end Go.Proofs.YtfofhpkafhpicaaGreatDoor
