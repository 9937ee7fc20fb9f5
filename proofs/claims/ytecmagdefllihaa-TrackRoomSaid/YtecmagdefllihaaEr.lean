/- An engine for walks: slices of structs that grow, that are cleared; functions that are handed on; pointers against nil. -/
import Derived.Test.YtecmagdefllihaaMee
namespace Go.Proofs.Ytecmagdefllihaa
open Go.RowKit

section
variable {P : Program} {E : Env} {H : Heap} {w : World} {a : Act} {o : Oper} {nx rid : Nat} {tm : Nat → AV}

theorem ok_makeFunc {fn : Fn} {caps : Array Operand} {l : List AV} (s : Sat E nx H w) (r : RepT E w tm a) (h : o.op = .makeFunc fn #[] caps) (hl : caps.toList.map (avOf tm) = l) : OpOk P o E H a w rid nx ⟨.fn fn l, [], nx⟩ := by
  refine ok_val (u := .func fn #[] (caps.map a.eval)) s (by simp [execOp, h, Instr.makeFunc]) ?_
  subst hl
  refine .fn (by simp) fun k b v h1 h2 => ?_
  simp only [List.getElem?_map, Option.map_eq_some_iff, Array.getElem?_toList] at h1
  obtain ⟨y, hy, rfl⟩ := h1
  simp [hy] at h2
  subst h2
  exact r.eval y

/-- a pointer, or a slice that holds something, is not nil -/
def notNil (tm : Nat → AV) (x : Operand) : Bool :=
  match avOf tm x with
  | .ptr _ _ _ => true
  | .sl _ _ n _ => decide (0 < n)
  | _ => false
def isNilV (tm : Nat → AV) (x : Operand) : Bool :=
  match avOf tm x with
  | .val (.pointer none) => true
  | .val (.slice none 0 0) => true
  | _ => false

theorem notNil_ok {x : Operand} (r : RepT E w tm a) (h : notNil tm x = true) : (∃ p, a.eval x = .pointer (some p)) ∨ ∃ p n c, a.eval x = .slice (some p) n c := by
  unfold notNil at h
  have rx := r.eval x
  split at h
  · rename_i id i j hx
    rw [hx] at rx
    generalize a.eval x = u at rx
    cases rx with
    | ptr => exact .inl ⟨_, rfl⟩
  · rename_i id off n lim hx
    rw [hx] at rx
    generalize a.eval x = u at rx
    have h0 : 0 < n := by simpa using h
    cases rx with
    | slnil => omega
    | sl hE hc hl hn hA =>
      obtain rfl := hA.resolve_left (by omega)
      exact .inr ⟨_, _, _, rfl⟩
  · cases h

theorem isNilV_ok {x : Operand} (r : RepT E w tm a) (h : isNilV tm x = true) : a.eval x = .pointer none ∨ a.eval x = .slice none 0 0 := by
  unfold isNilV at h
  split at h
  · rename_i hx; exact .inl (eval_val r hx)
  · rename_i hx; exact .inr (eval_val r hx)
  · cases h

/-- may a value of this type be nil? -/
def nilT (P : Program) (t : TypeId) : Nat :=
  match P.underlying t with
  | some (.pointer _) => 1
  | some (.slice _) => 2
  | _ => 0

theorem equal_nil {t : TypeId} {u v : Value} (w : World) (h : (nilT P t = 1 ∧ ((∃ p, u = .pointer (some p) ∧ v = .pointer none) ∨ ∃ p, u = .pointer none ∧ v = .pointer (some p))) ∨
    (nilT P t = 2 ∧ ((∃ p n c, u = .slice (some p) n c ∧ v = .slice none 0 0) ∨ ∃ p n c, u = .slice none 0 0 ∧ v = .slice (some p) n c))) : (Op.equal t u v).run P w = .ok false w := by
  unfold nilT at h
  split at h
  · rename_i e he
    rcases h with ⟨_, h⟩ | ⟨h, _⟩
    · rcases h with ⟨p, rfl, rfl⟩ | ⟨p, rfl, rfl⟩ <;> exact (fun d => by rw [Op.equalIn]; simp [run_underlying he] : ∀ d, (Op.equalIn (d + 1) t _ _).run P w = .ok false w) 9999
    · cases h
  · rename_i e he
    rcases h with ⟨h, _⟩ | ⟨_, h⟩
    · cases h
    · rcases h with ⟨p, n, c, rfl, rfl⟩ | ⟨p, n, c, rfl, rfl⟩ <;> exact (fun d => by rw [Op.equalIn]; simp [run_underlying he] : ∀ d, (Op.equalIn (d + 1) t _ _).run P w = .ok false w) 9999
  · rcases h with ⟨h, _⟩ | ⟨h, _⟩ <;> cases h

theorem elemT_under {t e : TypeId} (ht : elemT P t = some e) : P.underlying t = some (.slice e) := by
  unfold elemT at ht
  split at ht
  · rename_i e' he
    injection ht with ht
    subst ht
    exact he
  · cases ht

/-! ### rows of structs that are read -/
theorem rows_src {id off n : Nat} {lim : Option Nat} {ob : AObj} {l : List (List AV)} {u : Value} (s : Sat E nx H w) (hid : H id = some ob) (hb : ob.body = .rows l) (hx : Rep E w (.sl id off n lim) u) (hn : 0 < n) (hle : off + n ≤ l.length) :
    ∃ (p : Addr) (c : Nat) (news : List Value), u = .slice (some p) n c ∧ news.length = n * ob.sz ∧ (∀ (j : Nat) v, news[j]? = some v → w.cell? (p.add j) = some v) ∧
      ∀ i j, i < n → j < ob.sz → ∃ x v, (l[off + i]?).bind (·[j]?) = some x ∧ news[i * ob.sz + j]? = some v ∧ Rep E w x v := by
  cases hx with
  | slnil => omega
  | sl hE hc hl hn' hA =>
    rename_i b c sz cap A
    have ro := s.at_ hid hE
    have hsz : sz = ob.sz := ro.1
    subst hsz
    obtain rfl := hA.resolve_left (by omega)
    have cell : ∀ i j, i < n → j < ob.sz → ∃ x v, (l[off + i]?).bind (·[j]?) = some x ∧ w.cell? ⟨b, off * ob.sz + (i * ob.sz + j), none⟩ = some v ∧ Rep E w x v := fun i j hi hj => by
      obtain ⟨x, v, e1, e2, e3⟩ := ro.read (i := off + i) (j := j) (by rw [hb]; simp only [Body.len]; omega) hj
      rw [hb] at e1
      refine ⟨x, v, e1, ?_, e3⟩
      rw [Nat.add_mul, Nat.add_assoc] at e2
      exact e2
    have flat : ∀ k, k < n * ob.sz → ∃ v, w.cell? ⟨b, off * ob.sz + k, none⟩ = some v := fun k hk => by
      have hsz : 0 < ob.sz := by
        rcases Nat.eq_zero_or_pos ob.sz with h | h
        · rw [h] at hk; simp at hk
        · exact h
      obtain ⟨x, v, _, e2, _⟩ := cell (k / ob.sz) (k % ob.sz) ((Nat.div_lt_iff_lt_mul hsz).2 hk) (Nat.mod_lt _ hsz)
      rw [Nat.mul_comm (k / ob.sz), Nat.div_add_mod] at e2
      exact ⟨v, e2⟩
    refine ⟨⟨b, off * ob.sz, none⟩, cap, (List.range (n * ob.sz)).map fun k => (w.cell? ⟨b, off * ob.sz + k, none⟩).getD undef, rfl, by simp, fun j v hv => ?_, fun i j hi hj => ?_⟩
    · have hj : j < n * ob.sz := by have := (List.getElem?_eq_some_iff.1 hv).1; simpa using this
      obtain ⟨v', hv'⟩ := flat j hj
      simp [hj, hv'] at hv
      subst hv
      rw [add_spot]
      exact hv'
    · obtain ⟨x, v, e1, e2, e3⟩ := cell i j hi hj
      have hlt : i * ob.sz + j < n * ob.sz := flat_lt hj hi
      exact ⟨x, v, e1, by simp [hlt, e2], e3⟩

/-- elements put over others -/
def over (l : List (List AV)) (n : Nat) (src : List (List AV)) : List (List AV) := l.take n ++ src ++ l.drop (n + src.length)

theorem over_get (l : List (List AV)) (n : Nat) (src : List (List AV)) (h : n + src.length ≤ l.length) (k : Nat) : (over l n src)[k]? = if n ≤ k ∧ k < n + src.length then src[k - n]? else l[k]? := by
  unfold over
  have hlen : (l.take n).length = n := by simp; omega
  by_cases h1 : k < n
  · rw [if_neg (by omega), List.append_assoc, List.getElem?_append_left (by omega), List.getElem?_take, if_pos h1]
  · by_cases h2 : k < n + src.length
    · rw [if_pos (by omega), List.append_assoc, List.getElem?_append_right (by omega), hlen, List.getElem?_append_left (by omega)]
    · rw [if_neg (by omega), List.getElem?_append_right (by simp; omega), List.getElem?_drop]
      congr 1
      simp
      omega

theorem over_len (l : List (List AV)) (n : Nat) (src : List (List AV)) (h : n + src.length ≤ l.length) : (over l n src).length = l.length := by simp [over]; omega

/-- all cells of these elements fill one cell each, and each element has so many -/
def onesOk (sz : Nat) (l : List (List AV)) : Bool := l.all fun e => e.length == sz && e.all AV.one

theorem onesOk_ok {sz : Nat} {l : List (List AV)} (h : onesOk sz l = true) {i j : Nat} {x : AV} (hx : (l[i]?).bind (·[j]?) = some x) : x.one = true := by
  obtain ⟨e, h1, h2⟩ := Option.bind_eq_some_iff.1 hx
  have := List.all_eq_true.1 h e (List.mem_of_getElem? h1)
  simp only [Bool.and_eq_true] at this
  exact List.all_eq_true.1 this.2 x (List.mem_of_getElem? h2)

/-- append where there is room for it -/
theorem ok_appendIn {x y : Operand} {t e : TypeId} {id n id2 off2 m : Nat} {lim2 : Option Nat} {ob ob2 : AObj} {l l2 : List (List AV)} {sz : Nat} (s : Sat E nx H w) (r : RepT E w tm a) (h : o.op = .call { callee := .builtin .append, args := #[x, y], argTypes := #[t, t] })
    (ht : elemT P t = some e) (hs : szT P e = some sz) (hx : avOf tm x = .sl id 0 n none) (hid : H id = some ob) (hob : ob.body = .rows l) (hsz : ob.sz = sz) (hot : ob.t = e) (hfz : ob.fz = false)
    (hy : avOf tm y = .sl id2 off2 m lim2) (hid2 : H id2 = some ob2) (hob2 : ob2.body = .rows l2) (hsz2 : ob2.sz = sz) (hm : 0 < m) (hle2 : off2 + m ≤ l2.length) (hfit : n + m ≤ l.length) (hones : onesOk sz ((l2.drop off2).take m) = true) :
    OpOk P o E H a w rid nx ⟨.sl id 0 (n + m) none, [(id, some { ob with body := .rows (over l n ((l2.drop off2).take m)) })], nx⟩ := by
  have ry := r.eval y
  rw [hy] at ry
  obtain ⟨p, c2, news, hv, hnl, hnews, hsrc⟩ := rows_src s hid2 hob2 ry hm hle2
  rw [hsz2] at hnl hsrc
  have rx := r.eval x
  rw [hx] at rx
  generalize hu : a.eval x = u at rx
  cases rx with
  | slnil hE hl =>
    obtain ⟨q, hq, rr⟩ := s.rows _ _ hid
    rw [hE] at hq; cases hq
    have := rr.1
    rw [hob] at this
    simp only [Body.len] at this
    omega
  | sl hE hc hl hn' hA =>
    rename_i b c sz' cap A
    have ro := s.at_ hid hE
    have hsz' : sz' = sz := by rw [← hsz]; exact ro.1
    subst hsz'
    obtain ⟨h1, _, hlc, hmx, hex, cur, fr, hg, hcs, hfr, hcell⟩ := ro
    simp only [Option.getD_none, Nat.add_zero] at hc
    subst hc
    have hfr0 : fr = (0, 0) := hfr.resolve_right fun h => by rw [hfz] at h; cases h.1
    subst hfr0
    rw [hob] at hlc
    simp only [Body.len] at hlc
    obtain rfl := hA.resolve_left (by omega)
    simp only [Nat.zero_mul] at hu
    obtain ⟨i, hi, hi2⟩ := Option.map_eq_some_iff.1 hs
    rw [hot] at hg
    have one : ∀ u ∈ news, u.oneCell' = true := by
      intro u hu'
      obtain ⟨k, hk, rfl⟩ := List.getElem_of_mem hu'
      have hpos : 0 < sz' := by
        rcases Nat.eq_zero_or_pos sz' with h | h
        · subst h; simp at hnl; subst hnl; simp at hk
        · exact h
      obtain ⟨x', v', e1, e2, e3⟩ := hsrc (k / sz') (k % sz') ((Nat.div_lt_iff_lt_mul hpos).2 (by omega)) (Nat.mod_lt _ hpos)
      rw [Nat.mul_comm (k / sz'), Nat.div_add_mod] at e2
      have : news[k] = v' := by
        have := List.getElem?_eq_getElem hk
        rw [this] at e2
        injection e2
      rw [this]
      refine e3.one (onesOk_ok hones (i := k / sz') (j := k % sz') ?_)
      rw [List.getElem?_take, if_pos ((Nat.div_lt_iff_lt_mul hpos).2 (by omega)), List.getElem?_drop]
      exact e1
    have hfit' : n * i.size + news.length ≤ cur.size := by
      rw [hi2, hnl, hcs, ← Nat.add_mul]
      exact Nat.mul_le_mul_right _ (by omega)
    have hrun := run_append_room (P := P) w t o.type e i (elemT_under ht) hi b n cap cur hg p m c2 news (by rw [hi2]; exact hnl) hnews one (by omega) hfit'
    rw [hi2] at hrun hfit'
    have hsetb := setRow_heap w b cur (cur.toList.take (n * sz') ++ news ++ cur.toList.drop (n * sz' + news.length)).toArray e (0, 0) hg
    have hset := sat_set (w' := w.setRow b (cur.toList.take (n * sz') ++ news ++ cur.toList.drop (n * sz' + news.length)).toArray) (N := fun id => id = rid ∨ nx ≤ id) (o' := { ob with body := .rows (over l n ((l2.drop off2).take m)) }) s hid hE (by rw [hot]; exact hsetb)
      (fun k hk => setRow_other w b k _ (fun e => hk e)) (by simp [World.setRow]) ⟨rfl, rfl, rfl⟩ hsz.symm (by simp; omega) (by simp only [Body.len]; rw [over_len _ _ _ (by simp; omega)]; exact hlc)
      (fun hh => by have := hex hh; rw [hob] at this; simp only [Body.len] at this ⊢; rw [over_len _ _ _ (by simp; omega)]; exact this) (.inl rfl) (fun i' hi' j' hj' => by
        simp only [Body.len] at hi'
        rw [over_len _ _ _ (by simp; omega)] at hi'
        simp only [Body.cell?, over_get l n ((l2.drop off2).take m) (by simp; omega)]
        have hml : ((l2.drop off2).take m).length = m := by simp; omega
        rw [hml]
        obtain ⟨x0, v0, g1, g2, g3⟩ := hcell i' (by rw [hob]; exact hi') j' hj'
        rw [hob] at g1
        simp only [Body.cell?] at g1
        by_cases hc : n ≤ i' ∧ i' < n + m
        · rw [if_pos hc]
          obtain ⟨x', v', e1, e2, e3⟩ := hsrc (i' - n) j' (by omega) hj'
          refine ⟨x', v', ?_, ?_, e3⟩
          · rw [List.getElem?_take, if_pos (by omega), List.getElem?_drop]
            exact e1
          · have ea : i' * sz' + j' = n * sz' + ((i' - n) * sz' + j') := by
              rw [← Nat.add_assoc, ← Nat.add_mul, show n + (i' - n) = i' by omega]
            have hlt : (i' - n) * sz' + j' < news.length := by rw [hnl]; exact flat_lt hj' (by omega)
            simp only [List.getElem?_toArray]
            rw [List.append_assoc, List.getElem?_append_right (by simp; omega), List.length_take, Nat.min_eq_left (by simp only [Array.length_toList]; omega), ea, Nat.add_sub_cancel_left, List.getElem?_append_left hlt]
            exact e2
        · rw [if_neg hc]
          refine ⟨x0, v0, g1, ?_, g3⟩
          simp only [List.getElem?_toArray]
          rcases Nat.lt_or_ge i' n with hlt | hge
          · have : i' * sz' + j' < n * sz' := flat_lt hj' hlt
            rw [List.append_assoc, List.getElem?_append_left (by simp; omega), List.getElem?_take, if_pos this, Array.getElem?_toList]
            exact g2
          · have hge2 : n + m ≤ i' := by omega
            have hmul : (n + m) * sz' ≤ i' * sz' := Nat.mul_le_mul_right _ hge2
            rw [Nat.add_mul] at hmul
            rw [List.getElem?_append_right (by simp; omega), List.getElem?_drop, Array.getElem?_toList]
            have hidx : n * sz' + news.length + (i' * sz' + j' - (cur.toList.take (n * sz') ++ news).length) = i' * sz' + j' := by
              simp
              omega
            rw [hidx]
            exact g2)
    exact .value E _ _ (append_run h hu hv hrun) ⟨hset.1, .sl (cap := cap) hE rfl (Nat.le_refl _) (by omega) (.inr (by simp)), hset.2, Nat.le_refl _⟩
/-- the object that an append of structs leaves -/
def objAppR (t : TypeId) (sz : Nat) (l : List (List AV)) : AObj := ⟨t, sz, false, false, .rows l⟩

/-- append behind the end -/
theorem append_rows {H0 : Heap} {v : Value} {n : Nat} {xs : List Value} {t ty e : TypeId} {i : TypeInfo} {z : Value} {sz : Nat} {p : Addr} {m c2 : Nat} {news : List Value} {l src : List (List AV)} {nx' : Nat} (s0 : Sat E nx H0 w) (s : Sat E nx H w) (h0 : ∀ id o, H id = some o → H0 id = some o)
    (hr : E.f rid = none) (hnx : nx ≤ nx') (hrid : rid < nx') (ht : P.underlying t = some (.slice e)) (hi : P.info? e = some i) (hz : i.zero = some z) (hisz : i.size = sz) (hzs : z.cells.size = sz) (hsz : 0 < sz)
    (hown : w.ownsRow 0 e sz v n xs) (hrow : ∀ b, v.ownBlock = some b → Hb E H0 b ∧ ¬ Hb E H b) (hll : l.length = n)
    (hxs : ∀ i j, i < n → j < sz → ∃ x u, (l[i]?).bind (·[j]?) = some x ∧ xs[i * sz + j]? = some u ∧ Rep E w x u)
    (hnl : news.length = m * sz) (hnews : ∀ (j : Nat) u, news[j]? = some u → w.cell? (p.add j) = some u) (h1 : ∀ u ∈ news, u.oneCell' = true) (hsl : src.length = m)
    (hsrc : ∀ i j, i < m → j < sz → ∃ x u, (src[i]?).bind (·[j]?) = some x ∧ news[i * sz + j]? = some u ∧ Rep E w x u) (h63 : n + m ≤ 1000000000) (hby : (n + m) * i.bytes ≤ 140737488355328) :
    ∃ E' w' u, (Builtin.append_ #[t, t] ty #[v, .slice (some p) m c2]).run P w = .ok u w' ∧ Sat E' nx' (upd H rid (some (objAppR e sz (l ++ src)))) w' ∧
      Rep E' w' (.sl rid 0 (n + m) none) u ∧ Ext E H0 w (fun id => id = rid) E' (upd H rid (some (objAppR e sz (l ++ src)))) w' := by
  obtain ⟨v', w', hrun, hown', hgr, hnil, hat⟩ := run_append_own_at (P := P) w 0 t ty e i z sz i.bytes ht hi hz hisz rfl hzs hsz v n xs hown p m c2 news hnl hnews h1 (by simp only [maxLen]; omega) hby (Nat.zero_le _)
  rcases hown'.2 with ⟨hv, hn0⟩ | ⟨g, cap, cur, hv, _, hgg, hnc, hm, hs, htk⟩
  · subst hv
    have := sat_put (p := .nil) (ob := objAppR e sz (l ++ src)) s0 s h0 hr hnx hrid hrow hgr ⟨by simp only [objAppR, Body.len, List.length_append]; omega, rfl⟩
    refine ⟨_, w', _, hrun, this.1, ?_, this.2⟩
    rw [hn0]
    exact .slnil (Env.put_same _ _ _) rfl
  · subst hv
    have hrow' : v.ownBlock = some g ∨ w.heap.size ≤ g := by
      rcases hat with hat | hat
      · left; rw [← hat]; rfl
      · right; simp [Value.ownBlock] at hat; omega
    have hlen := hown.1
    have hcur : ∀ k u, (xs ++ news)[k]? = some u → cur[k]? = some u := fun k u hk => by
      rw [← htk, List.getElem?_take] at hk
      split at hk
      · simpa using hk
      · cases hk
    have := sat_put (p := .at_ g cap sz) (ob := objAppR e sz (l ++ src)) s0 s h0 hr hnx hrid hrow hgr ⟨rfl, hrow', by simp only [objAppR, Body.len, List.length_append]; omega, hm, rfl, cur, hgg, hs, fun i' hi' j hj => by
      simp only [objAppR, Body.len, List.length_append] at hi'
      simp only [objAppR, Body.cell?]
      rcases Nat.lt_or_ge i' n with hlt | hge
      · obtain ⟨x, u, e1, e2, e3⟩ := hxs i' j hlt hj
        refine ⟨x, u, by rw [List.getElem?_append_left (by omega)]; exact e1, hcur _ _ ?_, e3⟩
        rw [List.getElem?_append_left (by rw [hlen]; exact flat_lt hj hlt)]
        exact e2
      · obtain ⟨x, u, e1, e2, e3⟩ := hsrc (i' - n) j (by omega) hj
        refine ⟨x, u, by rw [List.getElem?_append_right (by omega), hll]; exact e1, hcur _ _ ?_, e3⟩
        have ea : i' * sz + j = n * sz + ((i' - n) * sz + j) := by
          rw [← Nat.add_assoc, ← Nat.add_mul, show n + (i' - n) = i' by omega]
        rw [ea, List.getElem?_append_right (by omega), hlen, Nat.add_sub_cancel_left]
        exact e2⟩
    refine ⟨_, w', _, hrun, this.1, ?_, this.2⟩
    exact .sl (cap := cap) (b := g) (c := cap) (sz := sz) (Env.put_same _ _ _) rfl (Nat.le_refl _) hnc (.inr (by simp))

def infoB (P : Program) (e : TypeId) : Option Nat := (P.info? e).map (·.bytes)

theorem src_ones {sz m : Nat} {news : List Value} {src : List (List AV)} (hnl : news.length = m * sz) (hsrc : ∀ i j, i < m → j < sz → ∃ x u, (src[i]?).bind (·[j]?) = some x ∧ news[i * sz + j]? = some u ∧ Rep E w x u) (ho : onesOk sz src = true) : ∀ u ∈ news, u.oneCell' = true := by
  intro u hu'
  obtain ⟨k, hk, rfl⟩ := List.getElem_of_mem hu'
  have hpos : 0 < sz := by
    rcases Nat.eq_zero_or_pos sz with h | h
    · subst h; simp at hnl; subst hnl; simp at hk
    · exact h
  obtain ⟨x', v', e1, e2, e3⟩ := hsrc (k / sz) (k % sz) ((Nat.div_lt_iff_lt_mul hpos).2 (by omega)) (Nat.mod_lt _ hpos)
  rw [Nat.mul_comm (k / sz), Nat.div_add_mod] at e2
  have : news[k] = v' := by
    have := List.getElem?_eq_getElem hk
    rw [this] at e2
    injection e2
  rw [this]
  exact e3.one (onesOk_ok ho e1)

theorem ok_appendRows {x y : Operand} {t e : TypeId} {id n id2 off2 m : Nat} {lim2 : Option Nat} {ob ob2 : AObj} {l l2 : List (List AV)} {sz by_ : Nat} {z : List Value} {nx' : Nat} (s : Sat E nx H w) (r : RepT E w tm a) (hr : E.f rid = none) (hnx : nx ≤ nx') (hrid : rid < nx') (h : o.op = .call { callee := .builtin .append, args := #[x, y], argTypes := #[t, t] })
    (ht : elemT P t = some e) (hs : szT P e = some sz) (hz : zeroT P e = some z) (hzl : z.length = sz) (hpos : 0 < sz) (hby : infoB P e = some by_) (hx : avOf tm x = .sl id 0 n none) (hid : H id = some ob) (hob : ob.body = .rows l) (hsz : ob.sz = sz) (hot : ob.t = e) (hfz : ob.fz = false) (hn : l.length = n)
    (hy : avOf tm y = .sl id2 off2 m lim2) (hid2 : H id2 = some ob2) (hob2 : ob2.body = .rows l2) (hsz2 : ob2.sz = sz) (hm : 0 < m) (hle2 : off2 + m ≤ l2.length) (hones : onesOk sz ((l2.drop off2).take m) = true) (h63 : n + m ≤ 1000000000) (hbb : (n + m) * by_ ≤ 140737488355328) :
    OpOk P o E H a w rid nx ⟨.sl rid 0 (n + m) none, [(id, none), (rid, some (objAppR e sz (l ++ (l2.drop off2).take m)))], nx'⟩ := by
  have ry := r.eval y
  rw [hy] at ry
  obtain ⟨p, c2, news, hv, hnl, hnews, hsrc⟩ := rows_src s hid2 hob2 ry hm hle2
  rw [hsz2] at hnl hsrc
  have hsrc' : ∀ i j, i < m → j < sz → ∃ x u, (((l2.drop off2).take m)[i]?).bind (·[j]?) = some x ∧ news[i * sz + j]? = some u ∧ Rep E w x u := fun i j hi hj => by
    obtain ⟨x, u, e1, e2, e3⟩ := hsrc i j hi hj
    exact ⟨x, u, by rw [List.getElem?_take, if_pos hi, List.getElem?_drop]; exact e1, e2, e3⟩
  have one := src_ones hnl hsrc' hones
  obtain ⟨i, hi, hi2⟩ := Option.map_eq_some_iff.1 hs
  have hi3 : i.bytes = by_ := by simpa [infoB, hi] using hby
  obtain ⟨zv, hzv, hzc⟩ : ∃ zv, i.zero = some zv ∧ zv.cells.toList = z := by
    simpa [zeroT, hi] using hz
  have hzs : zv.cells.size = sz := by rw [← hzl, ← hzc]; simp
  have rx := r.eval x
  rw [hx] at rx
  generalize hu : a.eval x = u at rx
  have s1 : Sat E nx (upd H id none) w := s.sub fun k q hk => by
    by_cases e : k = id
    · subst e; rw [upd_same] at hk; cases hk
    · rwa [upd_other _ _ e] at hk
  have h0 : ∀ k q, upd H id none k = some q → H k = some q := fun k q hk => by
    by_cases e : k = id
    · subst e; rw [upd_same] at hk; cases hk
    · rwa [upd_other _ _ e] at hk
  have fin : ∀ xs, w.ownsRow 0 e sz u n xs → (∀ b, u.ownBlock = some b → Hb E H b ∧ ¬ Hb E (upd H id none) b) → (∀ i j, i < n → j < sz → ∃ x v, (l[i]?).bind (·[j]?) = some x ∧ xs[i * sz + j]? = some v ∧ Rep E w x v) →
      OpOk P o E H a w rid nx ⟨.sl rid 0 (n + m) none, [(id, none), (rid, some (objAppR e sz (l ++ (l2.drop off2).take m)))], nx'⟩ := by
    intro xs hown hrow hxs
    obtain ⟨E', w', u', k1, k2, k3, k4⟩ := append_rows (ty := o.type) s s1 h0 hr hnx hrid (elemT_under ht) hi hzv hi2 hzs hpos hown hrow hn hxs hnl hnews one (by simp; omega) hsrc' h63 (by rw [hi3]; exact hbb)
    exact .value E' w' u' (append_run h hu hv k1) ⟨k2, k3, k4.weaken fun id e => .inl e, hnx⟩
  cases rx with
  | slnil hE hl => exact fin [] (World.ownsRow_nil w 0 e sz) (fun b hb => by simp [Value.ownBlock] at hb) fun i j hi => by omega
  | sl hE hc hl hn' hA =>
    rename_i b c sz' cap A
    have ro := s.at_ hid hE
    have hsz' : sz' = sz := by rw [← hsz]; exact ro.1
    subst hsz'
    simp only [Option.getD_none, Nat.add_zero] at hc
    subst hc
    obtain rfl := hA.resolve_left (by omega)
    obtain ⟨_, _, hlen, hmx, _, cur, fr, hg, hcs, hfr, hcell⟩ := ro
    have hfr0 : fr = (0, 0) := hfr.resolve_right fun h => by rw [hfz] at h; cases h.1
    subst hfr0
    rw [hot] at hg
    have hns : n * sz' ≤ cur.size := by rw [hcs]; exact Nat.mul_le_mul_right _ hn'
    refine fin (cur.toList.take (n * sz')) ⟨by simp; omega, .inr ⟨b, cap, cur, by simp, Nat.zero_le _, hg, hn', hmx, hcs, rfl⟩⟩ (fun b' hb' => ?_) fun i j hi' hj => ?_
    · simp only [Value.ownBlock, Option.some.injEq] at hb'
      subst hb'
      refine ⟨⟨id, ob, cap, sz', hid, hE⟩, ?_⟩
      rintro ⟨k, q, c2, z2, hk, hf⟩
      have hne : k ≠ id := fun e => by subst e; rw [upd_same] at hk; cases hk
      rw [upd_other _ _ hne] at hk
      exact hne (s.inj _ _ _ _ _ _ _ _ _ hk hid hf hE)
    · obtain ⟨x', v', e1, e2, e3⟩ := hcell i (by rw [hob]; simp only [Body.len]; omega) j hj
      rw [hob] at e1
      exact ⟨x', v', e1, by rw [List.getElem?_take, if_pos (flat_lt hj hi')]; simpa using e2, e3⟩

theorem view_src {sz m : Nat} {gv : Nat → List AV} {u : Value} (hx : Rep E w (.view sz m gv) u) (hm : 0 < m) :
    ∃ (p : Addr) (c : Nat) (news : List Value), u = .slice (some p) m c ∧ news.length = m * sz ∧ (∀ (j : Nat) v, news[j]? = some v → w.cell? (p.add j) = some v) ∧
      ∀ i j, i < m → j < sz → ∃ x v, (((List.range m).map gv)[i]?).bind (·[j]?) = some x ∧ news[i * sz + j]? = some v ∧ Rep E w x v := by
  cases hx with
  | view cells hc hmx hA hl hcell hr =>
    rename_i c b o A
    obtain ⟨rfl, _⟩ := hA hm
    refine ⟨⟨b, o, none⟩, c, (List.range (m * sz)).map fun k => cells (k / sz) (k % sz), rfl, by simp, fun j v hj => ?_, fun i j hi hj => ?_⟩
    · rw [List.getElem?_map, Option.map_eq_some_iff] at hj
      obtain ⟨k, hk, rfl⟩ := hj
      obtain ⟨hk1, hk2⟩ := List.getElem?_eq_some_iff.1 hk
      rw [List.getElem_range] at hk2
      subst hk2
      rw [List.length_range] at hk1
      have hsz : 0 < sz := by
        rcases Nat.eq_zero_or_pos sz with h | h
        · rw [h] at hk1; simp at hk1
        · exact h
      have := hcell (j / sz) (j % sz) ((Nat.div_lt_iff_lt_mul hsz).2 hk1) (Nat.mod_lt _ hsz)
      rw [Nat.add_assoc, Nat.mul_comm (j / sz), Nat.div_add_mod] at this
      have e0 : (⟨b, o, none⟩ : Addr).add j = ⟨b, o + j, none⟩ := by
        unfold Addr.add
        split
        · simp_all
        · rfl
      rw [e0]
      exact this
    · have h1 : (gv i)[j]? = some ((gv i)[j]'(by rw [hl i hi]; exact hj)) := List.getElem?_eq_getElem _
      have hsz : 0 < sz := by omega
      have hlt : i * sz + j < m * sz := flat_lt hj hi
      have e1 : (i * sz + j) / sz = i := by rw [Nat.mul_comm, Nat.mul_add_div hsz, Nat.div_eq_of_lt hj, Nat.add_zero]
      have e2 : (i * sz + j) % sz = j := by rw [Nat.mul_comm, Nat.mul_add_mod, Nat.mod_eq_of_lt hj]
      refine ⟨_, cells i j, ?_, ?_, hr i j _ hi h1⟩
      · rw [List.getElem?_map, List.getElem?_range hi]
        exact h1
      · rw [List.getElem?_map, List.getElem?_range hlt, Option.map_some, e1, e2]

theorem ok_appendView {x y : Operand} {t e : TypeId} {id n m : Nat} {gv : Nat → List AV} {ob : AObj} {l : List (List AV)} {sz by_ : Nat} {z : List Value} {nx' : Nat} (s : Sat E nx H w) (r : RepT E w tm a) (hr : E.f rid = none) (hnx : nx ≤ nx') (hrid : rid < nx') (h : o.op = .call { callee := .builtin .append, args := #[x, y], argTypes := #[t, t] })
    (ht : elemT P t = some e) (hs : szT P e = some sz) (hz : zeroT P e = some z) (hzl : z.length = sz) (hpos : 0 < sz) (hby : infoB P e = some by_) (hx : avOf tm x = .sl id 0 n none) (hid : H id = some ob) (hob : ob.body = .rows l) (hsz : ob.sz = sz) (hot : ob.t = e) (hfz : ob.fz = false) (hn : l.length = n)
    (hy : avOf tm y = .view sz m gv) (hm : 0 < m) (hones : onesOk sz ((List.range m).map gv) = true) (h63 : n + m ≤ 1000000000) (hbb : (n + m) * by_ ≤ 140737488355328) :
    OpOk P o E H a w rid nx ⟨.sl rid 0 (n + m) none, [(id, none), (rid, some (objAppR e sz (l ++ (List.range m).map gv)))], nx'⟩ := by
  have ry := r.eval y
  rw [hy] at ry
  obtain ⟨p, c2, news, hv, hnl, hnews, hsrc'⟩ := view_src ry hm
  have one := src_ones hnl hsrc' hones
  obtain ⟨i, hi, hi2⟩ := Option.map_eq_some_iff.1 hs
  have hi3 : i.bytes = by_ := by simpa [infoB, hi] using hby
  obtain ⟨zv, hzv, hzc⟩ : ∃ zv, i.zero = some zv ∧ zv.cells.toList = z := by
    simpa [zeroT, hi] using hz
  have hzs : zv.cells.size = sz := by rw [← hzl, ← hzc]; simp
  have rx := r.eval x
  rw [hx] at rx
  generalize hu : a.eval x = u at rx
  have s1 : Sat E nx (upd H id none) w := s.sub fun k q hk => by
    by_cases e : k = id
    · subst e; rw [upd_same] at hk; cases hk
    · rwa [upd_other _ _ e] at hk
  have h0 : ∀ k q, upd H id none k = some q → H k = some q := fun k q hk => by
    by_cases e : k = id
    · subst e; rw [upd_same] at hk; cases hk
    · rwa [upd_other _ _ e] at hk
  have fin : ∀ xs, w.ownsRow 0 e sz u n xs → (∀ b, u.ownBlock = some b → Hb E H b ∧ ¬ Hb E (upd H id none) b) → (∀ i j, i < n → j < sz → ∃ x v, (l[i]?).bind (·[j]?) = some x ∧ xs[i * sz + j]? = some v ∧ Rep E w x v) →
      OpOk P o E H a w rid nx ⟨.sl rid 0 (n + m) none, [(id, none), (rid, some (objAppR e sz (l ++ (List.range m).map gv)))], nx'⟩ := by
    intro xs hown hrow hxs
    obtain ⟨E', w', u', k1, k2, k3, k4⟩ := append_rows (ty := o.type) s s1 h0 hr hnx hrid (elemT_under ht) hi hzv hi2 hzs hpos hown hrow hn hxs hnl hnews one (by simp) hsrc' h63 (by rw [hi3]; exact hbb)
    exact .value E' w' u' (append_run h hu hv k1) ⟨k2, k3, k4.weaken fun id e => .inl e, hnx⟩
  cases rx with
  | slnil hE hl => exact fin [] (World.ownsRow_nil w 0 e sz) (fun b hb => by simp [Value.ownBlock] at hb) fun i j hi => by omega
  | sl hE hc hl hn' hA =>
    rename_i b c sz' cap A
    have ro := s.at_ hid hE
    have hsz' : sz' = sz := by rw [← hsz]; exact ro.1
    subst hsz'
    simp only [Option.getD_none, Nat.add_zero] at hc
    subst hc
    obtain rfl := hA.resolve_left (by omega)
    obtain ⟨_, _, hlen, hmx, _, cur, fr, hg, hcs, hfr, hcell⟩ := ro
    have hfr0 : fr = (0, 0) := hfr.resolve_right fun h => by rw [hfz] at h; cases h.1
    subst hfr0
    rw [hot] at hg
    have hns : n * sz' ≤ cur.size := by rw [hcs]; exact Nat.mul_le_mul_right _ hn'
    refine fin (cur.toList.take (n * sz')) ⟨by simp; omega, .inr ⟨b, cap, cur, by simp, Nat.zero_le _, hg, hn', hmx, hcs, rfl⟩⟩ (fun b' hb' => ?_) fun i j hi' hj => ?_
    · simp only [Value.ownBlock, Option.some.injEq] at hb'
      subst hb'
      refine ⟨⟨id, ob, cap, sz', hid, hE⟩, ?_⟩
      rintro ⟨k, q, c2, z2, hk, hf⟩
      have hne : k ≠ id := fun e => by subst e; rw [upd_same] at hk; cases hk
      rw [upd_other _ _ hne] at hk
      exact hne (s.inj _ _ _ _ _ _ _ _ _ hk hid hf hE)
    · obtain ⟨x', v', e1, e2, e3⟩ := hcell i (by rw [hob]; simp only [Body.len]; omega) j hj
      rw [hob] at e1
      exact ⟨x', v', e1, by rw [List.getElem?_take, if_pos (flat_lt hj hi')]; simpa using e2, e3⟩

theorem ok_appendRowsNil {x y : Operand} {t e : TypeId} {id2 off2 m : Nat} {lim2 : Option Nat} {ob2 : AObj} {l2 : List (List AV)} {sz by_ : Nat} {z : List Value} {nx' : Nat} (s : Sat E nx H w) (r : RepT E w tm a) (hr : E.f rid = none) (hnx : nx ≤ nx') (hrid : rid < nx') (h : o.op = .call { callee := .builtin .append, args := #[x, y], argTypes := #[t, t] })
    (ht : elemT P t = some e) (hs : szT P e = some sz) (hz : zeroT P e = some z) (hzl : z.length = sz) (hpos : 0 < sz) (hby : infoB P e = some by_) (hx : avOf tm x = .val (.slice none 0 0))
    (hy : avOf tm y = .sl id2 off2 m lim2) (hid2 : H id2 = some ob2) (hob2 : ob2.body = .rows l2) (hsz2 : ob2.sz = sz) (hm : 0 < m) (hle2 : off2 + m ≤ l2.length) (hones : onesOk sz ((l2.drop off2).take m) = true) (h63 : m ≤ 1000000000) (hbb : m * by_ ≤ 140737488355328) :
    OpOk P o E H a w rid nx ⟨.sl rid 0 m none, [(rid, some (objAppR e sz ((l2.drop off2).take m)))], nx'⟩ := by
  have ry := r.eval y
  rw [hy] at ry
  obtain ⟨p, c2, news, hv, hnl, hnews, hsrc⟩ := rows_src s hid2 hob2 ry hm hle2
  rw [hsz2] at hnl hsrc
  have hsrc' : ∀ i j, i < m → j < sz → ∃ x u, (((l2.drop off2).take m)[i]?).bind (·[j]?) = some x ∧ news[i * sz + j]? = some u ∧ Rep E w x u := fun i j hi hj => by
    obtain ⟨x, u, e1, e2, e3⟩ := hsrc i j hi hj
    exact ⟨x, u, by rw [List.getElem?_take, if_pos hi, List.getElem?_drop]; exact e1, e2, e3⟩
  obtain ⟨i, hi, hi2⟩ := Option.map_eq_some_iff.1 hs
  have hi3 : i.bytes = by_ := by simpa [infoB, hi] using hby
  obtain ⟨zv, hzv, hzc⟩ : ∃ zv, i.zero = some zv ∧ zv.cells.toList = z := by
    simpa [zeroT, hi] using hz
  have hzs : zv.cells.size = sz := by rw [← hzl, ← hzc]; simp
  obtain ⟨E', w', u', k1, k2, k3, k4⟩ := append_rows (ty := o.type) (l := []) (n := 0) (xs := []) (v := .slice none 0 0) s s (fun _ _ h => h) hr hnx hrid (elemT_under ht) hi hzv hi2 hzs hpos (World.ownsRow_nil w 0 e sz) (fun b hb => by simp [Value.ownBlock] at hb) rfl (fun i j hi => by omega) hnl hnews (src_ones hnl hsrc' hones) (by simp; omega) hsrc' (by omega) (by rw [hi3, Nat.zero_add]; exact hbb)
  simp only [List.nil_append, Nat.zero_add] at k2 k3 k4
  exact .value E' w' u' (append_run h (eval_val r hx) hv k1) ⟨k2, k3, k4.weaken fun id e => .inl e, hnx⟩

/-! ### clear -/
theorem ok_clear0 {x : Operand} {t e : TypeId} {id off : Nat} {lim : Option Nat} (s : Sat E nx H w) (r : RepT E w tm a) (h : o.op = .call { callee := .builtin .clear, args := #[x], argTypes := #[t] }) (ht : elemT P t = some e) (hx : avOf tm x = .sl id off 0 lim) :
    OpOk P o E H a w rid nx ⟨.val (.tuple #[]), [], nx⟩ := by
  have rx := r.eval x
  rw [hx] at rx
  generalize hu : a.eval x = u at rx
  have : ∃ A c, u = .slice A 0 c := by cases rx <;> exact ⟨_, _, rfl⟩
  obtain ⟨A, c, rfl⟩ := this
  refine ok_val (u := .tuple #[]) s ?_ (.val _)
  cases A <;> simp [execOp, h, resolve, invoke, builtin, Builtin.clear_, hu, elemT_run ht]

theorem zeroCells_list (z : Array Value) (n : Nat) : (Builtin.zeroCells z n).toList = (List.replicate n z.toList).flatten := range_mod z n _ rfl

theorem flatten_get {z : List Value} {sz : Nat} (hz : z.length = sz) : ∀ (n i j : Nat), i < n → j < sz → ((List.replicate n z).flatten)[i * sz + j]? = z[j]?
  | 0, i, j, h, _ => by omega
  | n + 1, 0, j, _, hj => by
    rw [List.replicate_succ, List.flatten_cons, Nat.zero_mul, Nat.zero_add, List.getElem?_append_left (by omega)]
  | n + 1, i + 1, j, h, hj => by
    rw [List.replicate_succ, List.flatten_cons, List.getElem?_append_right (by rw [Nat.add_mul]; omega), hz]
    have := flatten_get hz n i j (by omega) hj
    rw [← this]
    congr 1
    rw [Nat.add_mul]
    omega

theorem ok_clear {x : Operand} {t e : TypeId} {id off n : Nat} {lim : Option Nat} {ob : AObj} {l : List (List AV)} {sz : Nat} {z : List Value} (s : Sat E nx H w) (r : RepT E w tm a) (h : o.op = .call { callee := .builtin .clear, args := #[x], argTypes := #[t] }) (ht : elemT P t = some e) (hs : szT P e = some sz)
    (hz : zeroT P e = some z) (hzl : z.length = sz) (hz1 : z.all Value.oneCell' = true) (hx : avOf tm x = .sl id off (n + 1) lim) (hid : H id = some ob) (hob : ob.body = .rows l) (hsz : ob.sz = sz) (hle : off + (n + 1) ≤ l.length) :
    OpOk P o E H a w rid nx ⟨.val (.tuple #[]), [(id, some { ob with body := .rows (over l off (List.replicate (n + 1) (z.map .val))) })], nx⟩ := by
  have rx := r.eval x
  rw [hx] at rx
  generalize hu : a.eval x = u at rx
  cases rx with
  | sl hE hc hl hn' hA =>
    rename_i b c sz' cap A
    have ro := s.at_ hid hE
    have hsz' : sz' = sz := by rw [← hsz]; exact ro.1
    subst hsz'
    obtain rfl := hA.resolve_left (by omega)
    obtain ⟨zv, hzv, hzc⟩ := zeroT_run hz w
    have hnl : (Builtin.zeroCells zv.cells (n + 1)).toList.length = (n + 1) * sz' := by
      rw [zeroCells_list, hzc]; simp [hzl]
    have hlc : l.length ≤ c := by have := ro.2.2.1; rw [hob] at this; exact this
    have hrun := run_storeCells_cells (P := P) b (off * sz') (Builtin.zeroCells zv.cells (n + 1)).toList 0 w (fun j hj => (ro.writable (by
        rw [hnl] at hj
        have : (off + (n + 1)) * sz' ≤ c * sz' := Nat.mul_le_mul_right _ (by omega)
        rw [Nat.add_mul] at this
        omega)).1) (fun j hj => (ro.writable (by
        rw [hnl] at hj
        have : (off + (n + 1)) * sz' ≤ c * sz' := Nat.mul_le_mul_right _ (by omega)
        rw [Nat.add_mul] at this
        omega)).2) (fun v hv => by
        rw [zeroCells_list, hzc] at hv
        obtain ⟨y, hy, hv⟩ := List.mem_flatten.1 hv
        rw [List.eq_of_mem_replicate hy] at hv
        exact List.all_eq_true.1 hz1 v hv)
    simp only [Nat.add_zero] at hrun
    obtain ⟨_, _, hlc', _, hex, cur, fr, hg, hcs, hfr, hcell⟩ := ro
    obtain ⟨cur', g1, g2, g3, g4, g5, gm⟩ := setCells_spec b ob.t fr (Builtin.zeroCells zv.cells (n + 1)).toList (off * sz') cur w hg
    have hrl : (List.replicate (n + 1) (z.map AV.val)).length = n + 1 := by simp
    have hset := sat_set (w' := w.setCells b (off * sz') (Builtin.zeroCells zv.cells (n + 1)).toList) (N := fun id => id = rid ∨ nx ≤ id) (o' := { ob with body := .rows (over l off (List.replicate (n + 1) (z.map .val))) }) s hid hE g1 g4 g5 gm hsz.symm (by rw [g2]; exact hcs)
      (by simp only [Body.len]; rw [over_len _ _ _ (by rw [hrl]; exact hle)]; exact hlc) (fun hh => by have := hex hh; rw [hob] at this; simp only [Body.len] at this ⊢; rw [over_len _ _ _ (by rw [hrl]; exact hle)]; exact this) hfr (fun i' hi' j' hj' => by
        simp only [Body.len] at hi'
        rw [over_len _ _ _ (by rw [hrl]; exact hle)] at hi'
        simp only [Body.cell?, over_get l off (List.replicate (n + 1) (z.map .val)) (by rw [hrl]; exact hle), hrl]
        rw [g3, hnl]
        have hcur : i' * sz' + j' < cur.size := by rw [hcs]; exact flat_lt hj' (by omega)
        by_cases hc2 : off ≤ i' ∧ i' < off + (n + 1)
        · rw [if_pos hc2]
          have ea : i' * sz' + j' = off * sz' + ((i' - off) * sz' + j') := by
            rw [← Nat.add_assoc, ← Nat.add_mul, show off + (i' - off) = i' by omega]
          have hlt : (i' - off) * sz' + j' < (n + 1) * sz' := flat_lt hj' (by omega)
          rw [if_pos ⟨by omega, by omega, hcur⟩, ea, Nat.add_sub_cancel_left, zeroCells_list, hzc, flatten_get hzl _ _ _ (by omega) hj']
          have hjz : j' < z.length := by omega
          exact ⟨.val z[j'], z[j'], by simp [show i' - off < n + 1 by omega, hjz], by simp [hjz], .val _⟩
        · rw [if_neg hc2]
          obtain ⟨x0, v0, e1, e2, e3⟩ := hcell i' (by rw [hob]; exact hi') j' hj'
          rw [hob] at e1
          refine ⟨x0, v0, e1, ?_, e3⟩
          rw [if_neg]
          · exact e2
          · rintro ⟨q1, q2, _⟩
            rcases Nat.lt_or_ge i' off with hlt | hge
            · have := flat_lt (j := j') hj' hlt
              omega
            · have hge2 : off + (n + 1) ≤ i' := by omega
              have : (off + (n + 1)) * sz' ≤ i' * sz' := Nat.mul_le_mul_right _ hge2
              rw [Nat.add_mul] at this
              omega)
    refine .value E _ _ ?_ ⟨hset.1, .val _, hset.2, Nat.le_refl _⟩
    simp [execOp, h, resolve, invoke, builtin, Builtin.clear_, hu, elemT_run ht, hzv, hrun]
/-- is one of the two nil and the other not, seen from what is known? -/
def eqNil (P : Program) (tm : Nat → AV) (ty : TypeId) (x y : Operand) : Bool :=
  (nilT P ty == 1 && match avOf tm x, avOf tm y with
    | .ptr _ _ _, .val (.pointer none) => true
    | .val (.pointer none), .ptr _ _ _ => true
    | _, _ => false) ||
  (nilT P ty == 2 && match avOf tm x, avOf tm y with
    | .sl _ _ n _, .val (.slice none 0 0) => decide (0 < n)
    | .val (.slice none 0 0), .sl _ _ n _ => decide (0 < n)
    | _, _ => false)

theorem rep_ptr {id i j : Nat} {u : Value} (h : Rep E w (.ptr id i j) u) : ∃ p, u = .pointer (some p) := by cases h; exact ⟨_, rfl⟩
theorem rep_slpos {id off n : Nat} {lim : Option Nat} {u : Value} (h : Rep E w (.sl id off n lim) u) (h0 : 0 < n) : ∃ p n c, u = .slice (some p) n c := by
  cases h with
  | slnil => omega
  | sl hE hc hl hn hA =>
    obtain rfl := hA.resolve_left (by omega)
    exact ⟨_, _, _, rfl⟩

theorem eqNil_ok {ty : TypeId} {x y : Operand} (r : RepT E w tm a) (h : eqNil P tm ty x y = true) : (Op.equal ty (a.eval x) (a.eval y)).run P w = .ok false w := by
  unfold eqNil at h
  have rx := r.eval x
  have ry := r.eval y
  simp only [Bool.or_eq_true, Bool.and_eq_true, beq_iff_eq] at h
  apply equal_nil
  rcases h with ⟨h1, h2⟩ | ⟨h1, h2⟩
  · refine .inl ⟨h1, ?_⟩
    split at h2
    · rename_i hx hy
      rw [hx] at rx
      exact .inl ((rep_ptr rx).imp fun p hp => ⟨hp, eval_val r hy⟩)
    · rename_i hx hy
      rw [hy] at ry
      exact .inr ((rep_ptr ry).imp fun p hp => ⟨eval_val r hx, hp⟩)
    · cases h2
  · refine .inr ⟨h1, ?_⟩
    split at h2
    · rename_i hx hy
      rw [hx] at rx
      obtain ⟨p, n, c, e⟩ := rep_slpos rx (by simpa using h2)
      exact .inl ⟨p, n, c, e, eval_val r hy⟩
    · rename_i hx hy
      rw [hy] at ry
      obtain ⟨p, n, c, e⟩ := rep_slpos ry (by simpa using h2)
      exact .inr ⟨p, n, c, eval_val r hx, e⟩
    · cases h2

theorem eqNil_shape {ty : TypeId} {x y : Operand} (r : RepT E w tm a) (h : eqNil P tm ty x y = true) : (∃ p q, a.eval x = .pointer p ∧ a.eval y = .pointer q) ∨ ∃ p n c q m d, a.eval x = .slice p n c ∧ a.eval y = .slice q m d := by
  unfold eqNil at h
  have rx := r.eval x
  have ry := r.eval y
  simp only [Bool.or_eq_true, Bool.and_eq_true, beq_iff_eq] at h
  rcases h with ⟨h1, h2⟩ | ⟨h1, h2⟩
  · split at h2
    · rename_i hx hy
      rw [hx] at rx
      obtain ⟨p, hp⟩ := rep_ptr rx
      exact .inl ⟨_, _, hp, eval_val r hy⟩
    · rename_i hx hy
      rw [hy] at ry
      obtain ⟨p, hp⟩ := rep_ptr ry
      exact .inl ⟨_, _, eval_val r hx, hp⟩
    · cases h2
  · split at h2
    · rename_i hx hy
      rw [hx] at rx
      obtain ⟨p, n, c, e⟩ := rep_slpos rx (by simpa using h2)
      exact .inr ⟨_, _, _, _, _, _, e, eval_val r hy⟩
    · rename_i hx hy
      rw [hy] at ry
      obtain ⟨p, n, c, e⟩ := rep_slpos ry (by simpa using h2)
      exact .inr ⟨_, _, _, _, _, _, eval_val r hx, e⟩
    · cases h2

theorem nil_run {neg : Bool} {ty : TypeId} {x y : Operand} {u v : Value} (h1 : (Op.equal ty u v).run P w = .ok false w) (hs : (∃ p q, u = .pointer p ∧ v = .pointer q) ∨ ∃ p n c q m d, u = .slice p n c ∧ v = .slice q m d) :
    ((do eqGuard (if neg then .neq else .eql) ty x y u v; binOp (if neg then .neq else .eql) ty u v) : Sem Value).run P w = .ok (.bool neg) w := by
  rcases hs with ⟨p, q, rfl, rfl⟩ | ⟨p, n, c, q, m, d, rfl, rfl⟩ <;> cases neg <;> simp [eqGuard, binOp, h1]

theorem ok_eqNil {neg : Bool} {ty : TypeId} {x y : Operand} {tr : TypeId} (s : Sat E nx H w) (r : RepT E w tm a) (h : o.op = .binOp (if neg then .neq else .eql) ty x y tr) (hc : eqNil P tm ty x y = true) : OpOk P o E H a w rid nx ⟨.val (.bool neg), [], nx⟩ := by
  have h1 := nil_run (neg := neg) (x := x) (y := y) (eqNil_ok r hc) (eqNil_shape r hc)
  refine ok_val (u := .bool neg) s ?_ (.val _)
  simp only [Sem.run_bind] at h1
  simp [execOp, h]
  revert h1
  generalize Sem.run P (eqGuard (if neg = true then BinOp.neq else BinOp.eql) ty x y (a.eval x) (a.eval y)) w = g
  intro h1
  cases g with
  | ok z w1 =>
    simp only [Result.andThen_ok] at h1 ⊢
    rw [h1, Result.andThen_ok]
  | _ => cases h1

/-- append of nothing -/
theorem ok_append0 {x y : Operand} {t e : TypeId} {sz : Nat} (s : Sat E nx H w) (r : RepT E w tm a) (h : o.op = .call { callee := .builtin .append, args := #[x, y], argTypes := #[t, t] }) (ht : elemT P t = some e) (hs : szT P e = some sz)
    (hx : ∃ A n c, a.eval x = .slice A n c ∧ n ≤ c) (hy : ∃ A c, a.eval y = .slice A 0 c) : OpOk P o E H a w rid nx ⟨avOf tm x, [], nx⟩ := by
  obtain ⟨A, n, c, h1, h2⟩ := hx
  obtain ⟨B, d, h3⟩ := hy
  obtain ⟨i, hi, hi2⟩ := Option.map_eq_some_iff.1 hs
  have hfc : (Builtin.firstCells i.size 0 (.slice B 0 d)).run P w = .ok #[] w := by
    cases B <;> simp [Builtin.firstCells, loadCells, loadCellsFrom]
  have hrun : (Builtin.append_ #[t, t] o.type #[.slice A n c, .slice B 0 d]).run P w = .ok (.slice A n c) w := by
    cases A <;> simp [Builtin.append_, run_underlying (elemT_under ht), sizeOf, typeInfo, hi, Builtin.lenOf, h2, hfc, storeCells]
  refine ok_val (u := a.eval x) s (append_run h h1 h3 (by rw [h1]; exact hrun)) (r.eval x)

def isEmptyV (tm : Nat → AV) (y : Operand) : Bool :=
  match avOf tm y with
  | .sl _ _ 0 _ => true
  | .val (.slice none 0 0) => true
  | .bytes [] => true
  | _ => false
theorem isEmptyV_ok {y : Operand} (r : RepT E w tm a) (h : isEmptyV tm y = true) : ∃ A c, a.eval y = .slice A 0 c := by
  unfold isEmptyV at h
  have ry := r.eval y
  split at h
  · rename_i hy
    rw [hy] at ry
    generalize a.eval y = u at ry
    cases ry <;> exact ⟨_, _, rfl⟩
  · rename_i hy
    exact ⟨_, _, eval_val r hy⟩
  · rename_i hy
    rw [hy] at ry
    generalize a.eval y = u at ry
    cases ry with
    | bytes hn hc hm hb =>
      rw [List.length_nil] at hn
      subst hn
      exact ⟨_, _, rfl⟩
  · cases h
def isSliceV (tm : Nat → AV) (y : Operand) : Bool :=
  match avOf tm y with
  | .sl _ _ _ _ => true
  | .val (.slice none 0 0) => true
  | _ => false
theorem isSliceV_ok {y : Operand} (r : RepT E w tm a) (h : isSliceV tm y = true) : ∃ A n c, a.eval y = .slice A n c ∧ n ≤ c := by
  unfold isSliceV at h
  have ry := r.eval y
  split at h
  · rename_i hy
    rw [hy] at ry
    generalize a.eval y = u at ry
    cases ry with
    | slnil => exact ⟨_, _, _, rfl, Nat.le_refl _⟩
    | sl hE hc hl hn hA => exact ⟨_, _, _, rfl, by omega⟩
  · rename_i hy
    exact ⟨_, _, _, eval_val r hy, Nat.le_refl _⟩
  · cases h

end
end Go.Proofs.Ytecmagdefllihaa
