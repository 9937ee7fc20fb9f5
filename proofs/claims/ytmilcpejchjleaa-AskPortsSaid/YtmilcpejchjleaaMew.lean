/- Several texts in one: Er, Ew, Eh, Est, Efl, Ecp. -/
import Derived.Test.YtmilcpejchjleaaMee
import Derived.Laws.StructEq
import Derived.ChangeKeysEq
import Derived.Lib.AppendStr
import Derived.Laws.IdiomStrings
import Derived.Laws.IdiomCopy

/- An engine for walks: slices of structs that grow, that are cleared; functions that are handed on; pointers against nil. -/
namespace Go.Proofs.Ytmilcpejchjleaa
open Go.RowKit

section
variable {P : Program} {E : Env} {H : Heap} {w : World} {a : Act} {o : Oper} {nx rid : Nat} {tm : Nat → AV}

theorem ok_makeFunc {fn : Fn} {caps : Array Operand} {l : List AV} (s : Sat E nx H w) (r : RepT E w tm a) (h : o.op = .makeFunc fn #[] caps) (hl : caps.toList.map (avOf tm) = l) : OpOk P o E H a w rid nx ⟨.fn fn l, [], nx⟩ := by
  refine ok_val (u := .func fn #[] (caps.map a.eval)) s (by simp [execOp, h, Instr.makeFunc]) ?_
  subst hl
  refine .fn (by simp) fun k b v h1 h2 => ?_
  simp only [List.getElem?_map, Option.map_eq_some_iff, Array.getElem?_toList] at h1
  obtain ⟨y, hy, rfl⟩ := h1
  simp [hy] at h2
  subst h2
  exact r.eval y

/-- a pointer, or a slice that holds something, is not nil -/
def notNil (tm : Nat → AV) (x : Operand) : Bool :=
  match avOf tm x with
  | .ptr _ _ _ => true
  | .sl _ _ n _ => decide (0 < n)
  | _ => false
def isNilV (tm : Nat → AV) (x : Operand) : Bool :=
  match avOf tm x with
  | .val (.pointer none) => true
  | .val (.slice none 0 0) => true
  | _ => false

theorem notNil_ok {x : Operand} (r : RepT E w tm a) (h : notNil tm x = true) : (∃ p, a.eval x = .pointer (some p)) ∨ ∃ p n c, a.eval x = .slice (some p) n c := by
  unfold notNil at h
  have rx := r.eval x
  split at h
  · rename_i id i j hx
    rw [hx] at rx
    generalize a.eval x = u at rx
    cases rx with
    | ptr => exact .inl ⟨_, rfl⟩
  · rename_i id off n lim hx
    rw [hx] at rx
    generalize a.eval x = u at rx
    have h0 : 0 < n := by simpa using h
    cases rx with
    | slnil => omega
    | sl hE hc hl hn hA =>
      obtain rfl := hA.resolve_left (by omega)
      exact .inr ⟨_, _, _, rfl⟩
  · cases h

theorem isNilV_ok {x : Operand} (r : RepT E w tm a) (h : isNilV tm x = true) : a.eval x = .pointer none ∨ a.eval x = .slice none 0 0 := by
  unfold isNilV at h
  split at h
  · rename_i hx; exact .inl (eval_val r hx)
  · rename_i hx; exact .inr (eval_val r hx)
  · cases h

/-- may a value of this type be nil? -/
def nilT (P : Program) (t : TypeId) : Nat :=
  match P.underlying t with
  | some (.pointer _) => 1
  | some (.slice _) => 2
  | _ => 0

theorem equal_nil {t : TypeId} {u v : Value} (w : World) (h : (nilT P t = 1 ∧ ((∃ p, u = .pointer (some p) ∧ v = .pointer none) ∨ ∃ p, u = .pointer none ∧ v = .pointer (some p))) ∨
    (nilT P t = 2 ∧ ((∃ p n c, u = .slice (some p) n c ∧ v = .slice none 0 0) ∨ ∃ p n c, u = .slice none 0 0 ∧ v = .slice (some p) n c))) : (Op.equal t u v).run P w = .ok false w := by
  unfold nilT at h
  split at h
  · rename_i e he
    rcases h with ⟨_, h⟩ | ⟨h, _⟩
    · rcases h with ⟨p, rfl, rfl⟩ | ⟨p, rfl, rfl⟩ <;> exact (fun d => by rw [Op.equalIn]; simp [run_underlying he] : ∀ d, (Op.equalIn (d + 1) t _ _).run P w = .ok false w) 9999
    · cases h
  · rename_i e he
    rcases h with ⟨h, _⟩ | ⟨_, h⟩
    · cases h
    · rcases h with ⟨p, n, c, rfl, rfl⟩ | ⟨p, n, c, rfl, rfl⟩ <;> exact (fun d => by rw [Op.equalIn]; simp [run_underlying he] : ∀ d, (Op.equalIn (d + 1) t _ _).run P w = .ok false w) 9999
  · rcases h with ⟨h, _⟩ | ⟨h, _⟩ <;> cases h

theorem elemT_under {t e : TypeId} (ht : elemT P t = some e) : P.underlying t = some (.slice e) := by
  unfold elemT at ht
  split at ht
  · rename_i e' he
    injection ht with ht
    subst ht
    exact he
  · cases ht

/-! ### rows of structs that are read -/
theorem rows_src {id off n : Nat} {lim : Option Nat} {ob : AObj} {l : List (List AV)} {u : Value} (s : Sat E nx H w) (hid : H id = some ob) (hb : ob.body = .rows l) (hx : Rep E w (.sl id off n lim) u) (hn : 0 < n) (hle : off + n ≤ l.length) :
    ∃ (p : Addr) (c : Nat) (news : List Value), u = .slice (some p) n c ∧ news.length = n * ob.sz ∧ (∀ (j : Nat) v, news[j]? = some v → w.cell? (p.add j) = some v) ∧
      ∀ i j, i < n → j < ob.sz → ∃ x v, (l[off + i]?).bind (·[j]?) = some x ∧ news[i * ob.sz + j]? = some v ∧ Rep E w x v := by
  cases hx with
  | slnil => omega
  | sl hE hc hl hn' hA =>
    rename_i b c sz cap A
    have ro := s.at_ hid hE
    have hsz : sz = ob.sz := ro.1
    subst hsz
    obtain rfl := hA.resolve_left (by omega)
    have cell : ∀ i j, i < n → j < ob.sz → ∃ x v, (l[off + i]?).bind (·[j]?) = some x ∧ w.cell? ⟨b, off * ob.sz + (i * ob.sz + j), none⟩ = some v ∧ Rep E w x v := fun i j hi hj => by
      obtain ⟨x, v, e1, e2, e3⟩ := ro.read (i := off + i) (j := j) (by rw [hb]; simp only [Body.len]; omega) hj
      rw [hb] at e1
      refine ⟨x, v, e1, ?_, e3⟩
      rw [Nat.add_mul, Nat.add_assoc] at e2
      exact e2
    have flat : ∀ k, k < n * ob.sz → ∃ v, w.cell? ⟨b, off * ob.sz + k, none⟩ = some v := fun k hk => by
      have hsz : 0 < ob.sz := by
        rcases Nat.eq_zero_or_pos ob.sz with h | h
        · rw [h] at hk; simp at hk
        · exact h
      obtain ⟨x, v, _, e2, _⟩ := cell (k / ob.sz) (k % ob.sz) ((Nat.div_lt_iff_lt_mul hsz).2 hk) (Nat.mod_lt _ hsz)
      rw [Nat.mul_comm (k / ob.sz), Nat.div_add_mod] at e2
      exact ⟨v, e2⟩
    refine ⟨⟨b, off * ob.sz, none⟩, cap, (List.range (n * ob.sz)).map fun k => (w.cell? ⟨b, off * ob.sz + k, none⟩).getD undef, rfl, by simp, fun j v hv => ?_, fun i j hi hj => ?_⟩
    · have hj : j < n * ob.sz := by have := (List.getElem?_eq_some_iff.1 hv).1; simpa using this
      obtain ⟨v', hv'⟩ := flat j hj
      simp [hj, hv'] at hv
      subst hv
      rw [add_spot]
      exact hv'
    · obtain ⟨x, v, e1, e2, e3⟩ := cell i j hi hj
      have hlt : i * ob.sz + j < n * ob.sz := flat_lt hj hi
      exact ⟨x, v, e1, by simp [hlt, e2], e3⟩

/-- elements put over others -/
def over (l : List (List AV)) (n : Nat) (src : List (List AV)) : List (List AV) := l.take n ++ src ++ l.drop (n + src.length)

theorem over_get (l : List (List AV)) (n : Nat) (src : List (List AV)) (h : n + src.length ≤ l.length) (k : Nat) : (over l n src)[k]? = if n ≤ k ∧ k < n + src.length then src[k - n]? else l[k]? := by
  unfold over
  have hlen : (l.take n).length = n := by simp; omega
  by_cases h1 : k < n
  · rw [if_neg (by omega), List.append_assoc, List.getElem?_append_left (by omega), List.getElem?_take, if_pos h1]
  · by_cases h2 : k < n + src.length
    · rw [if_pos (by omega), List.append_assoc, List.getElem?_append_right (by omega), hlen, List.getElem?_append_left (by omega)]
    · rw [if_neg (by omega), List.getElem?_append_right (by simp; omega), List.getElem?_drop]
      congr 1
      simp
      omega

theorem over_len (l : List (List AV)) (n : Nat) (src : List (List AV)) (h : n + src.length ≤ l.length) : (over l n src).length = l.length := by simp [over]; omega

/-- all cells of these elements fill one cell each, and each element has so many -/
def onesOk (sz : Nat) (l : List (List AV)) : Bool := l.all fun e => e.length == sz && e.all AV.one

theorem onesOk_ok {sz : Nat} {l : List (List AV)} (h : onesOk sz l = true) {i j : Nat} {x : AV} (hx : (l[i]?).bind (·[j]?) = some x) : x.one = true := by
  obtain ⟨e, h1, h2⟩ := Option.bind_eq_some_iff.1 hx
  have := List.all_eq_true.1 h e (List.mem_of_getElem? h1)
  simp only [Bool.and_eq_true] at this
  exact List.all_eq_true.1 this.2 x (List.mem_of_getElem? h2)

/-- append where there is room for it -/
theorem ok_appendIn {x y : Operand} {t e : TypeId} {id n id2 off2 m : Nat} {lim2 : Option Nat} {ob ob2 : AObj} {l l2 : List (List AV)} {sz : Nat} (s : Sat E nx H w) (r : RepT E w tm a) (h : o.op = .call { callee := .builtin .append, args := #[x, y], argTypes := #[t, t] })
    (ht : elemT P t = some e) (hs : szT P e = some sz) (hx : avOf tm x = .sl id 0 n none) (hid : H id = some ob) (hob : ob.body = .rows l) (hsz : ob.sz = sz) (hot : ob.t = e) (hfz : ob.fz = false)
    (hy : avOf tm y = .sl id2 off2 m lim2) (hid2 : H id2 = some ob2) (hob2 : ob2.body = .rows l2) (hsz2 : ob2.sz = sz) (hm : 0 < m) (hle2 : off2 + m ≤ l2.length) (hfit : n + m ≤ l.length) (hones : onesOk sz ((l2.drop off2).take m) = true) :
    OpOk P o E H a w rid nx ⟨.sl id 0 (n + m) none, [(id, some { ob with body := .rows (over l n ((l2.drop off2).take m)) })], nx⟩ := by
  have ry := r.eval y
  rw [hy] at ry
  obtain ⟨p, c2, news, hv, hnl, hnews, hsrc⟩ := rows_src s hid2 hob2 ry hm hle2
  rw [hsz2] at hnl hsrc
  have rx := r.eval x
  rw [hx] at rx
  generalize hu : a.eval x = u at rx
  cases rx with
  | slnil hE hl =>
    obtain ⟨q, hq, rr⟩ := s.rows _ _ hid
    rw [hE] at hq; cases hq
    have := rr.1
    rw [hob] at this
    simp only [Body.len] at this
    omega
  | sl hE hc hl hn' hA =>
    rename_i b c sz' cap A
    have ro := s.at_ hid hE
    have hsz' : sz' = sz := by rw [← hsz]; exact ro.1
    subst hsz'
    obtain ⟨h1, _, hlc, hmx, hex, cur, fr, hg, hcs, hfr, hcell⟩ := ro
    simp only [Option.getD_none, Nat.add_zero] at hc
    subst hc
    have hfr0 : fr = (0, 0) := hfr.resolve_right fun h => by rw [hfz] at h; cases h.1
    subst hfr0
    rw [hob] at hlc
    simp only [Body.len] at hlc
    obtain rfl := hA.resolve_left (by omega)
    simp only [Nat.zero_mul] at hu
    obtain ⟨i, hi, hi2⟩ := Option.map_eq_some_iff.1 hs
    rw [hot] at hg
    have one : ∀ u ∈ news, u.oneCell' = true := by
      intro u hu'
      obtain ⟨k, hk, rfl⟩ := List.getElem_of_mem hu'
      have hpos : 0 < sz' := by
        rcases Nat.eq_zero_or_pos sz' with h | h
        · subst h; simp at hnl; subst hnl; simp at hk
        · exact h
      obtain ⟨x', v', e1, e2, e3⟩ := hsrc (k / sz') (k % sz') ((Nat.div_lt_iff_lt_mul hpos).2 (by omega)) (Nat.mod_lt _ hpos)
      rw [Nat.mul_comm (k / sz'), Nat.div_add_mod] at e2
      have : news[k] = v' := by
        have := List.getElem?_eq_getElem hk
        rw [this] at e2
        injection e2
      rw [this]
      refine e3.one (onesOk_ok hones (i := k / sz') (j := k % sz') ?_)
      rw [List.getElem?_take, if_pos ((Nat.div_lt_iff_lt_mul hpos).2 (by omega)), List.getElem?_drop]
      exact e1
    have hfit' : n * i.size + news.length ≤ cur.size := by
      rw [hi2, hnl, hcs, ← Nat.add_mul]
      exact Nat.mul_le_mul_right _ (by omega)
    have hrun := run_append_room (P := P) w t o.type e i (elemT_under ht) hi b n cap cur hg p m c2 news (by rw [hi2]; exact hnl) hnews one (by omega) hfit'
    rw [hi2] at hrun hfit'
    have hsetb := setRow_heap w b cur (cur.toList.take (n * sz') ++ news ++ cur.toList.drop (n * sz' + news.length)).toArray e (0, 0) hg
    have hset := sat_set (w' := w.setRow b (cur.toList.take (n * sz') ++ news ++ cur.toList.drop (n * sz' + news.length)).toArray) (N := fun id => id = rid ∨ nx ≤ id) (o' := { ob with body := .rows (over l n ((l2.drop off2).take m)) }) s hid hE (by rw [hot]; exact hsetb)
      (fun k hk => setRow_other w b k _ (fun e => hk e)) (by simp [World.setRow]) ⟨rfl, rfl, rfl⟩ hsz.symm (by simp; omega) (by simp only [Body.len]; rw [over_len _ _ _ (by simp; omega)]; exact hlc)
      (fun hh => by have := hex hh; rw [hob] at this; simp only [Body.len] at this ⊢; rw [over_len _ _ _ (by simp; omega)]; exact this) (.inl rfl) (fun i' hi' j' hj' => by
        simp only [Body.len] at hi'
        rw [over_len _ _ _ (by simp; omega)] at hi'
        simp only [Body.cell?, over_get l n ((l2.drop off2).take m) (by simp; omega)]
        have hml : ((l2.drop off2).take m).length = m := by simp; omega
        rw [hml]
        obtain ⟨x0, v0, g1, g2, g3⟩ := hcell i' (by rw [hob]; exact hi') j' hj'
        rw [hob] at g1
        simp only [Body.cell?] at g1
        by_cases hc : n ≤ i' ∧ i' < n + m
        · rw [if_pos hc]
          obtain ⟨x', v', e1, e2, e3⟩ := hsrc (i' - n) j' (by omega) hj'
          refine ⟨x', v', ?_, ?_, e3⟩
          · rw [List.getElem?_take, if_pos (by omega), List.getElem?_drop]
            exact e1
          · have ea : i' * sz' + j' = n * sz' + ((i' - n) * sz' + j') := by
              rw [← Nat.add_assoc, ← Nat.add_mul, show n + (i' - n) = i' by omega]
            have hlt : (i' - n) * sz' + j' < news.length := by rw [hnl]; exact flat_lt hj' (by omega)
            simp only [List.getElem?_toArray]
            rw [List.append_assoc, List.getElem?_append_right (by simp; omega), List.length_take, Nat.min_eq_left (by simp only [Array.length_toList]; omega), ea, Nat.add_sub_cancel_left, List.getElem?_append_left hlt]
            exact e2
        · rw [if_neg hc]
          refine ⟨x0, v0, g1, ?_, g3⟩
          simp only [List.getElem?_toArray]
          rcases Nat.lt_or_ge i' n with hlt | hge
          · have : i' * sz' + j' < n * sz' := flat_lt hj' hlt
            rw [List.append_assoc, List.getElem?_append_left (by simp; omega), List.getElem?_take, if_pos this, Array.getElem?_toList]
            exact g2
          · have hge2 : n + m ≤ i' := by omega
            have hmul : (n + m) * sz' ≤ i' * sz' := Nat.mul_le_mul_right _ hge2
            rw [Nat.add_mul] at hmul
            rw [List.getElem?_append_right (by simp; omega), List.getElem?_drop, Array.getElem?_toList]
            have hidx : n * sz' + news.length + (i' * sz' + j' - (cur.toList.take (n * sz') ++ news).length) = i' * sz' + j' := by
              simp
              omega
            rw [hidx]
            exact g2)
    exact .value E _ _ (append_run h hu hv hrun) ⟨hset.1, .sl (cap := cap) hE rfl (Nat.le_refl _) (by omega) (.inr (by simp)), hset.2, Nat.le_refl _⟩
/-- the object that an append of structs leaves -/
def objAppR (t : TypeId) (sz : Nat) (l : List (List AV)) : AObj := ⟨t, sz, false, false, .rows l⟩

/-- append behind the end -/
theorem append_rows {H0 : Heap} {v : Value} {n : Nat} {xs : List Value} {t ty e : TypeId} {i : TypeInfo} {z : Value} {sz : Nat} {p : Addr} {m c2 : Nat} {news : List Value} {l src : List (List AV)} {nx' : Nat} (s0 : Sat E nx H0 w) (s : Sat E nx H w) (h0 : ∀ id o, H id = some o → H0 id = some o)
    (hr : E.f rid = none) (hnx : nx ≤ nx') (hrid : rid < nx') (ht : P.underlying t = some (.slice e)) (hi : P.info? e = some i) (hz : i.zero = some z) (hisz : i.size = sz) (hzs : z.cells.size = sz) (hsz : 0 < sz)
    (hown : w.ownsRow 0 e sz v n xs) (hrow : ∀ b, v.ownBlock = some b → Hb E H0 b ∧ ¬ Hb E H b) (hll : l.length = n)
    (hxs : ∀ i j, i < n → j < sz → ∃ x u, (l[i]?).bind (·[j]?) = some x ∧ xs[i * sz + j]? = some u ∧ Rep E w x u)
    (hnl : news.length = m * sz) (hnews : ∀ (j : Nat) u, news[j]? = some u → w.cell? (p.add j) = some u) (h1 : ∀ u ∈ news, u.oneCell' = true) (hsl : src.length = m)
    (hsrc : ∀ i j, i < m → j < sz → ∃ x u, (src[i]?).bind (·[j]?) = some x ∧ news[i * sz + j]? = some u ∧ Rep E w x u) (h63 : n + m ≤ 1000000000) (hby : (n + m) * i.bytes ≤ 140737488355328) :
    ∃ E' w' u, (Builtin.append_ #[t, t] ty #[v, .slice (some p) m c2]).run P w = .ok u w' ∧ Sat E' nx' (upd H rid (some (objAppR e sz (l ++ src)))) w' ∧
      Rep E' w' (.sl rid 0 (n + m) none) u ∧ Ext E H0 w (fun id => id = rid) E' (upd H rid (some (objAppR e sz (l ++ src)))) w' := by
  obtain ⟨v', w', hrun, hown', hgr, hnil, hat⟩ := run_append_own_at (P := P) w 0 t ty e i z sz i.bytes ht hi hz hisz rfl hzs hsz v n xs hown p m c2 news hnl hnews h1 (by simp only [maxLen]; omega) hby (Nat.zero_le _)
  rcases hown'.2 with ⟨hv, hn0⟩ | ⟨g, cap, cur, hv, _, hgg, hnc, hm, hs, htk⟩
  · subst hv
    have := sat_put (p := .nil) (ob := objAppR e sz (l ++ src)) s0 s h0 hr hnx hrid hrow hgr ⟨by simp only [objAppR, Body.len, List.length_append]; omega, rfl⟩
    refine ⟨_, w', _, hrun, this.1, ?_, this.2⟩
    rw [hn0]
    exact .slnil (Env.put_same _ _ _) rfl
  · subst hv
    have hrow' : v.ownBlock = some g ∨ w.heap.size ≤ g := by
      rcases hat with hat | hat
      · left; rw [← hat]; rfl
      · right; simp [Value.ownBlock] at hat; omega
    have hlen := hown.1
    have hcur : ∀ k u, (xs ++ news)[k]? = some u → cur[k]? = some u := fun k u hk => by
      rw [← htk, List.getElem?_take] at hk
      split at hk
      · simpa using hk
      · cases hk
    have := sat_put (p := .at_ g cap sz) (ob := objAppR e sz (l ++ src)) s0 s h0 hr hnx hrid hrow hgr ⟨rfl, hrow', by simp only [objAppR, Body.len, List.length_append]; omega, hm, rfl, cur, hgg, hs, fun i' hi' j hj => by
      simp only [objAppR, Body.len, List.length_append] at hi'
      simp only [objAppR, Body.cell?]
      rcases Nat.lt_or_ge i' n with hlt | hge
      · obtain ⟨x, u, e1, e2, e3⟩ := hxs i' j hlt hj
        refine ⟨x, u, by rw [List.getElem?_append_left (by omega)]; exact e1, hcur _ _ ?_, e3⟩
        rw [List.getElem?_append_left (by rw [hlen]; exact flat_lt hj hlt)]
        exact e2
      · obtain ⟨x, u, e1, e2, e3⟩ := hsrc (i' - n) j (by omega) hj
        refine ⟨x, u, by rw [List.getElem?_append_right (by omega), hll]; exact e1, hcur _ _ ?_, e3⟩
        have ea : i' * sz + j = n * sz + ((i' - n) * sz + j) := by
          rw [← Nat.add_assoc, ← Nat.add_mul, show n + (i' - n) = i' by omega]
        rw [ea, List.getElem?_append_right (by omega), hlen, Nat.add_sub_cancel_left]
        exact e2⟩
    refine ⟨_, w', _, hrun, this.1, ?_, this.2⟩
    exact .sl (cap := cap) (b := g) (c := cap) (sz := sz) (Env.put_same _ _ _) rfl (Nat.le_refl _) hnc (.inr (by simp))

def infoB (P : Program) (e : TypeId) : Option Nat := (P.info? e).map (·.bytes)

theorem src_ones {sz m : Nat} {news : List Value} {src : List (List AV)} (hnl : news.length = m * sz) (hsrc : ∀ i j, i < m → j < sz → ∃ x u, (src[i]?).bind (·[j]?) = some x ∧ news[i * sz + j]? = some u ∧ Rep E w x u) (ho : onesOk sz src = true) : ∀ u ∈ news, u.oneCell' = true := by
  intro u hu'
  obtain ⟨k, hk, rfl⟩ := List.getElem_of_mem hu'
  have hpos : 0 < sz := by
    rcases Nat.eq_zero_or_pos sz with h | h
    · subst h; simp at hnl; subst hnl; simp at hk
    · exact h
  obtain ⟨x', v', e1, e2, e3⟩ := hsrc (k / sz) (k % sz) ((Nat.div_lt_iff_lt_mul hpos).2 (by omega)) (Nat.mod_lt _ hpos)
  rw [Nat.mul_comm (k / sz), Nat.div_add_mod] at e2
  have : news[k] = v' := by
    have := List.getElem?_eq_getElem hk
    rw [this] at e2
    injection e2
  rw [this]
  exact e3.one (onesOk_ok ho e1)

theorem ok_appendRows {x y : Operand} {t e : TypeId} {id n id2 off2 m : Nat} {lim2 : Option Nat} {ob ob2 : AObj} {l l2 : List (List AV)} {sz by_ : Nat} {z : List Value} {nx' : Nat} (s : Sat E nx H w) (r : RepT E w tm a) (hr : E.f rid = none) (hnx : nx ≤ nx') (hrid : rid < nx') (h : o.op = .call { callee := .builtin .append, args := #[x, y], argTypes := #[t, t] })
    (ht : elemT P t = some e) (hs : szT P e = some sz) (hz : zeroT P e = some z) (hzl : z.length = sz) (hpos : 0 < sz) (hby : infoB P e = some by_) (hx : avOf tm x = .sl id 0 n none) (hid : H id = some ob) (hob : ob.body = .rows l) (hsz : ob.sz = sz) (hot : ob.t = e) (hfz : ob.fz = false) (hn : l.length = n)
    (hy : avOf tm y = .sl id2 off2 m lim2) (hid2 : H id2 = some ob2) (hob2 : ob2.body = .rows l2) (hsz2 : ob2.sz = sz) (hm : 0 < m) (hle2 : off2 + m ≤ l2.length) (hones : onesOk sz ((l2.drop off2).take m) = true) (h63 : n + m ≤ 1000000000) (hbb : (n + m) * by_ ≤ 140737488355328) :
    OpOk P o E H a w rid nx ⟨.sl rid 0 (n + m) none, [(id, none), (rid, some (objAppR e sz (l ++ (l2.drop off2).take m)))], nx'⟩ := by
  have ry := r.eval y
  rw [hy] at ry
  obtain ⟨p, c2, news, hv, hnl, hnews, hsrc⟩ := rows_src s hid2 hob2 ry hm hle2
  rw [hsz2] at hnl hsrc
  have hsrc' : ∀ i j, i < m → j < sz → ∃ x u, (((l2.drop off2).take m)[i]?).bind (·[j]?) = some x ∧ news[i * sz + j]? = some u ∧ Rep E w x u := fun i j hi hj => by
    obtain ⟨x, u, e1, e2, e3⟩ := hsrc i j hi hj
    exact ⟨x, u, by rw [List.getElem?_take, if_pos hi, List.getElem?_drop]; exact e1, e2, e3⟩
  have one := src_ones hnl hsrc' hones
  obtain ⟨i, hi, hi2⟩ := Option.map_eq_some_iff.1 hs
  have hi3 : i.bytes = by_ := by simpa [infoB, hi] using hby
  obtain ⟨zv, hzv, hzc⟩ : ∃ zv, i.zero = some zv ∧ zv.cells.toList = z := by
    simpa [zeroT, hi] using hz
  have hzs : zv.cells.size = sz := by rw [← hzl, ← hzc]; simp
  have rx := r.eval x
  rw [hx] at rx
  generalize hu : a.eval x = u at rx
  have s1 : Sat E nx (upd H id none) w := s.sub fun k q hk => by
    by_cases e : k = id
    · subst e; rw [upd_same] at hk; cases hk
    · rwa [upd_other _ _ e] at hk
  have h0 : ∀ k q, upd H id none k = some q → H k = some q := fun k q hk => by
    by_cases e : k = id
    · subst e; rw [upd_same] at hk; cases hk
    · rwa [upd_other _ _ e] at hk
  have fin : ∀ xs, w.ownsRow 0 e sz u n xs → (∀ b, u.ownBlock = some b → Hb E H b ∧ ¬ Hb E (upd H id none) b) → (∀ i j, i < n → j < sz → ∃ x v, (l[i]?).bind (·[j]?) = some x ∧ xs[i * sz + j]? = some v ∧ Rep E w x v) →
      OpOk P o E H a w rid nx ⟨.sl rid 0 (n + m) none, [(id, none), (rid, some (objAppR e sz (l ++ (l2.drop off2).take m)))], nx'⟩ := by
    intro xs hown hrow hxs
    obtain ⟨E', w', u', k1, k2, k3, k4⟩ := append_rows (ty := o.type) s s1 h0 hr hnx hrid (elemT_under ht) hi hzv hi2 hzs hpos hown hrow hn hxs hnl hnews one (by simp; omega) hsrc' h63 (by rw [hi3]; exact hbb)
    exact .value E' w' u' (append_run h hu hv k1) ⟨k2, k3, k4.weaken fun id e => .inl e, hnx⟩
  cases rx with
  | slnil hE hl => exact fin [] (World.ownsRow_nil w 0 e sz) (fun b hb => by simp [Value.ownBlock] at hb) fun i j hi => by omega
  | sl hE hc hl hn' hA =>
    rename_i b c sz' cap A
    have ro := s.at_ hid hE
    have hsz' : sz' = sz := by rw [← hsz]; exact ro.1
    subst hsz'
    simp only [Option.getD_none, Nat.add_zero] at hc
    subst hc
    obtain rfl := hA.resolve_left (by omega)
    obtain ⟨_, _, hlen, hmx, _, cur, fr, hg, hcs, hfr, hcell⟩ := ro
    have hfr0 : fr = (0, 0) := hfr.resolve_right fun h => by rw [hfz] at h; cases h.1
    subst hfr0
    rw [hot] at hg
    have hns : n * sz' ≤ cur.size := by rw [hcs]; exact Nat.mul_le_mul_right _ hn'
    refine fin (cur.toList.take (n * sz')) ⟨by simp; omega, .inr ⟨b, cap, cur, by simp, Nat.zero_le _, hg, hn', hmx, hcs, rfl⟩⟩ (fun b' hb' => ?_) fun i j hi' hj => ?_
    · simp only [Value.ownBlock, Option.some.injEq] at hb'
      subst hb'
      refine ⟨⟨id, ob, cap, sz', hid, hE⟩, ?_⟩
      rintro ⟨k, q, c2, z2, hk, hf⟩
      have hne : k ≠ id := fun e => by subst e; rw [upd_same] at hk; cases hk
      rw [upd_other _ _ hne] at hk
      exact hne (s.inj _ _ _ _ _ _ _ _ _ hk hid hf hE)
    · obtain ⟨x', v', e1, e2, e3⟩ := hcell i (by rw [hob]; simp only [Body.len]; omega) j hj
      rw [hob] at e1
      exact ⟨x', v', e1, by rw [List.getElem?_take, if_pos (flat_lt hj hi')]; simpa using e2, e3⟩

theorem view_src {sz m : Nat} {gv : Nat → List AV} {u : Value} (hx : Rep E w (.view sz m gv) u) (hm : 0 < m) :
    ∃ (p : Addr) (c : Nat) (news : List Value), u = .slice (some p) m c ∧ news.length = m * sz ∧ (∀ (j : Nat) v, news[j]? = some v → w.cell? (p.add j) = some v) ∧
      ∀ i j, i < m → j < sz → ∃ x v, (((List.range m).map gv)[i]?).bind (·[j]?) = some x ∧ news[i * sz + j]? = some v ∧ Rep E w x v := by
  cases hx with
  | view cells hc hmx hA hl hcell hr =>
    rename_i c b o A
    obtain ⟨rfl, _⟩ := hA hm
    refine ⟨⟨b, o, none⟩, c, (List.range (m * sz)).map fun k => cells (k / sz) (k % sz), rfl, by simp, fun j v hj => ?_, fun i j hi hj => ?_⟩
    · rw [List.getElem?_map, Option.map_eq_some_iff] at hj
      obtain ⟨k, hk, rfl⟩ := hj
      obtain ⟨hk1, hk2⟩ := List.getElem?_eq_some_iff.1 hk
      rw [List.getElem_range] at hk2
      subst hk2
      rw [List.length_range] at hk1
      have hsz : 0 < sz := by
        rcases Nat.eq_zero_or_pos sz with h | h
        · rw [h] at hk1; simp at hk1
        · exact h
      have := hcell (j / sz) (j % sz) ((Nat.div_lt_iff_lt_mul hsz).2 hk1) (Nat.mod_lt _ hsz)
      rw [Nat.add_assoc, Nat.mul_comm (j / sz), Nat.div_add_mod] at this
      have e0 : (⟨b, o, none⟩ : Addr).add j = ⟨b, o + j, none⟩ := by
        unfold Addr.add
        split
        · simp_all
        · rfl
      rw [e0]
      exact this
    · have h1 : (gv i)[j]? = some ((gv i)[j]'(by rw [hl i hi]; exact hj)) := List.getElem?_eq_getElem _
      have hsz : 0 < sz := by omega
      have hlt : i * sz + j < m * sz := flat_lt hj hi
      have e1 : (i * sz + j) / sz = i := by rw [Nat.mul_comm, Nat.mul_add_div hsz, Nat.div_eq_of_lt hj, Nat.add_zero]
      have e2 : (i * sz + j) % sz = j := by rw [Nat.mul_comm, Nat.mul_add_mod, Nat.mod_eq_of_lt hj]
      refine ⟨_, cells i j, ?_, ?_, hr i j _ hi h1⟩
      · rw [List.getElem?_map, List.getElem?_range hi]
        exact h1
      · rw [List.getElem?_map, List.getElem?_range hlt, Option.map_some, e1, e2]

theorem ok_appendView {x y : Operand} {t e : TypeId} {id n m : Nat} {gv : Nat → List AV} {ob : AObj} {l : List (List AV)} {sz by_ : Nat} {z : List Value} {nx' : Nat} (s : Sat E nx H w) (r : RepT E w tm a) (hr : E.f rid = none) (hnx : nx ≤ nx') (hrid : rid < nx') (h : o.op = .call { callee := .builtin .append, args := #[x, y], argTypes := #[t, t] })
    (ht : elemT P t = some e) (hs : szT P e = some sz) (hz : zeroT P e = some z) (hzl : z.length = sz) (hpos : 0 < sz) (hby : infoB P e = some by_) (hx : avOf tm x = .sl id 0 n none) (hid : H id = some ob) (hob : ob.body = .rows l) (hsz : ob.sz = sz) (hot : ob.t = e) (hfz : ob.fz = false) (hn : l.length = n)
    (hy : avOf tm y = .view sz m gv) (hm : 0 < m) (hones : onesOk sz ((List.range m).map gv) = true) (h63 : n + m ≤ 1000000000) (hbb : (n + m) * by_ ≤ 140737488355328) :
    OpOk P o E H a w rid nx ⟨.sl rid 0 (n + m) none, [(id, none), (rid, some (objAppR e sz (l ++ (List.range m).map gv)))], nx'⟩ := by
  have ry := r.eval y
  rw [hy] at ry
  obtain ⟨p, c2, news, hv, hnl, hnews, hsrc'⟩ := view_src ry hm
  have one := src_ones hnl hsrc' hones
  obtain ⟨i, hi, hi2⟩ := Option.map_eq_some_iff.1 hs
  have hi3 : i.bytes = by_ := by simpa [infoB, hi] using hby
  obtain ⟨zv, hzv, hzc⟩ : ∃ zv, i.zero = some zv ∧ zv.cells.toList = z := by
    simpa [zeroT, hi] using hz
  have hzs : zv.cells.size = sz := by rw [← hzl, ← hzc]; simp
  have rx := r.eval x
  rw [hx] at rx
  generalize hu : a.eval x = u at rx
  have s1 : Sat E nx (upd H id none) w := s.sub fun k q hk => by
    by_cases e : k = id
    · subst e; rw [upd_same] at hk; cases hk
    · rwa [upd_other _ _ e] at hk
  have h0 : ∀ k q, upd H id none k = some q → H k = some q := fun k q hk => by
    by_cases e : k = id
    · subst e; rw [upd_same] at hk; cases hk
    · rwa [upd_other _ _ e] at hk
  have fin : ∀ xs, w.ownsRow 0 e sz u n xs → (∀ b, u.ownBlock = some b → Hb E H b ∧ ¬ Hb E (upd H id none) b) → (∀ i j, i < n → j < sz → ∃ x v, (l[i]?).bind (·[j]?) = some x ∧ xs[i * sz + j]? = some v ∧ Rep E w x v) →
      OpOk P o E H a w rid nx ⟨.sl rid 0 (n + m) none, [(id, none), (rid, some (objAppR e sz (l ++ (List.range m).map gv)))], nx'⟩ := by
    intro xs hown hrow hxs
    obtain ⟨E', w', u', k1, k2, k3, k4⟩ := append_rows (ty := o.type) s s1 h0 hr hnx hrid (elemT_under ht) hi hzv hi2 hzs hpos hown hrow hn hxs hnl hnews one (by simp) hsrc' h63 (by rw [hi3]; exact hbb)
    exact .value E' w' u' (append_run h hu hv k1) ⟨k2, k3, k4.weaken fun id e => .inl e, hnx⟩
  cases rx with
  | slnil hE hl => exact fin [] (World.ownsRow_nil w 0 e sz) (fun b hb => by simp [Value.ownBlock] at hb) fun i j hi => by omega
  | sl hE hc hl hn' hA =>
    rename_i b c sz' cap A
    have ro := s.at_ hid hE
    have hsz' : sz' = sz := by rw [← hsz]; exact ro.1
    subst hsz'
    simp only [Option.getD_none, Nat.add_zero] at hc
    subst hc
    obtain rfl := hA.resolve_left (by omega)
    obtain ⟨_, _, hlen, hmx, _, cur, fr, hg, hcs, hfr, hcell⟩ := ro
    have hfr0 : fr = (0, 0) := hfr.resolve_right fun h => by rw [hfz] at h; cases h.1
    subst hfr0
    rw [hot] at hg
    have hns : n * sz' ≤ cur.size := by rw [hcs]; exact Nat.mul_le_mul_right _ hn'
    refine fin (cur.toList.take (n * sz')) ⟨by simp; omega, .inr ⟨b, cap, cur, by simp, Nat.zero_le _, hg, hn', hmx, hcs, rfl⟩⟩ (fun b' hb' => ?_) fun i j hi' hj => ?_
    · simp only [Value.ownBlock, Option.some.injEq] at hb'
      subst hb'
      refine ⟨⟨id, ob, cap, sz', hid, hE⟩, ?_⟩
      rintro ⟨k, q, c2, z2, hk, hf⟩
      have hne : k ≠ id := fun e => by subst e; rw [upd_same] at hk; cases hk
      rw [upd_other _ _ hne] at hk
      exact hne (s.inj _ _ _ _ _ _ _ _ _ hk hid hf hE)
    · obtain ⟨x', v', e1, e2, e3⟩ := hcell i (by rw [hob]; simp only [Body.len]; omega) j hj
      rw [hob] at e1
      exact ⟨x', v', e1, by rw [List.getElem?_take, if_pos (flat_lt hj hi')]; simpa using e2, e3⟩

theorem ok_appendRowsNil {x y : Operand} {t e : TypeId} {id2 off2 m : Nat} {lim2 : Option Nat} {ob2 : AObj} {l2 : List (List AV)} {sz by_ : Nat} {z : List Value} {nx' : Nat} (s : Sat E nx H w) (r : RepT E w tm a) (hr : E.f rid = none) (hnx : nx ≤ nx') (hrid : rid < nx') (h : o.op = .call { callee := .builtin .append, args := #[x, y], argTypes := #[t, t] })
    (ht : elemT P t = some e) (hs : szT P e = some sz) (hz : zeroT P e = some z) (hzl : z.length = sz) (hpos : 0 < sz) (hby : infoB P e = some by_) (hx : avOf tm x = .val (.slice none 0 0))
    (hy : avOf tm y = .sl id2 off2 m lim2) (hid2 : H id2 = some ob2) (hob2 : ob2.body = .rows l2) (hsz2 : ob2.sz = sz) (hm : 0 < m) (hle2 : off2 + m ≤ l2.length) (hones : onesOk sz ((l2.drop off2).take m) = true) (h63 : m ≤ 1000000000) (hbb : m * by_ ≤ 140737488355328) :
    OpOk P o E H a w rid nx ⟨.sl rid 0 m none, [(rid, some (objAppR e sz ((l2.drop off2).take m)))], nx'⟩ := by
  have ry := r.eval y
  rw [hy] at ry
  obtain ⟨p, c2, news, hv, hnl, hnews, hsrc⟩ := rows_src s hid2 hob2 ry hm hle2
  rw [hsz2] at hnl hsrc
  have hsrc' : ∀ i j, i < m → j < sz → ∃ x u, (((l2.drop off2).take m)[i]?).bind (·[j]?) = some x ∧ news[i * sz + j]? = some u ∧ Rep E w x u := fun i j hi hj => by
    obtain ⟨x, u, e1, e2, e3⟩ := hsrc i j hi hj
    exact ⟨x, u, by rw [List.getElem?_take, if_pos hi, List.getElem?_drop]; exact e1, e2, e3⟩
  obtain ⟨i, hi, hi2⟩ := Option.map_eq_some_iff.1 hs
  have hi3 : i.bytes = by_ := by simpa [infoB, hi] using hby
  obtain ⟨zv, hzv, hzc⟩ : ∃ zv, i.zero = some zv ∧ zv.cells.toList = z := by
    simpa [zeroT, hi] using hz
  have hzs : zv.cells.size = sz := by rw [← hzl, ← hzc]; simp
  obtain ⟨E', w', u', k1, k2, k3, k4⟩ := append_rows (ty := o.type) (l := []) (n := 0) (xs := []) (v := .slice none 0 0) s s (fun _ _ h => h) hr hnx hrid (elemT_under ht) hi hzv hi2 hzs hpos (World.ownsRow_nil w 0 e sz) (fun b hb => by simp [Value.ownBlock] at hb) rfl (fun i j hi => by omega) hnl hnews (src_ones hnl hsrc' hones) (by simp; omega) hsrc' (by omega) (by rw [hi3, Nat.zero_add]; exact hbb)
  simp only [List.nil_append, Nat.zero_add] at k2 k3 k4
  exact .value E' w' u' (append_run h (eval_val r hx) hv k1) ⟨k2, k3, k4.weaken fun id e => .inl e, hnx⟩

/-! ### clear -/
theorem ok_clear0 {x : Operand} {t e : TypeId} {id off : Nat} {lim : Option Nat} (s : Sat E nx H w) (r : RepT E w tm a) (h : o.op = .call { callee := .builtin .clear, args := #[x], argTypes := #[t] }) (ht : elemT P t = some e) (hx : avOf tm x = .sl id off 0 lim) :
    OpOk P o E H a w rid nx ⟨.val (.tuple #[]), [], nx⟩ := by
  have rx := r.eval x
  rw [hx] at rx
  generalize hu : a.eval x = u at rx
  have : ∃ A c, u = .slice A 0 c := by cases rx <;> exact ⟨_, _, rfl⟩
  obtain ⟨A, c, rfl⟩ := this
  refine ok_val (u := .tuple #[]) s ?_ (.val _)
  cases A <;> simp [execOp, h, resolve, invoke, builtin, Builtin.clear_, hu, elemT_run ht]

theorem zeroCells_list (z : Array Value) (n : Nat) : (Builtin.zeroCells z n).toList = (List.replicate n z.toList).flatten := range_mod z n _ rfl

theorem flatten_get {z : List Value} {sz : Nat} (hz : z.length = sz) : ∀ (n i j : Nat), i < n → j < sz → ((List.replicate n z).flatten)[i * sz + j]? = z[j]?
  | 0, i, j, h, _ => by omega
  | n + 1, 0, j, _, hj => by
    rw [List.replicate_succ, List.flatten_cons, Nat.zero_mul, Nat.zero_add, List.getElem?_append_left (by omega)]
  | n + 1, i + 1, j, h, hj => by
    rw [List.replicate_succ, List.flatten_cons, List.getElem?_append_right (by rw [Nat.add_mul]; omega), hz]
    have := flatten_get hz n i j (by omega) hj
    rw [← this]
    congr 1
    rw [Nat.add_mul]
    omega

theorem ok_clear {x : Operand} {t e : TypeId} {id off n : Nat} {lim : Option Nat} {ob : AObj} {l : List (List AV)} {sz : Nat} {z : List Value} (s : Sat E nx H w) (r : RepT E w tm a) (h : o.op = .call { callee := .builtin .clear, args := #[x], argTypes := #[t] }) (ht : elemT P t = some e) (hs : szT P e = some sz)
    (hz : zeroT P e = some z) (hzl : z.length = sz) (hz1 : z.all Value.oneCell' = true) (hx : avOf tm x = .sl id off (n + 1) lim) (hid : H id = some ob) (hob : ob.body = .rows l) (hsz : ob.sz = sz) (hle : off + (n + 1) ≤ l.length) :
    OpOk P o E H a w rid nx ⟨.val (.tuple #[]), [(id, some { ob with body := .rows (over l off (List.replicate (n + 1) (z.map .val))) })], nx⟩ := by
  have rx := r.eval x
  rw [hx] at rx
  generalize hu : a.eval x = u at rx
  cases rx with
  | sl hE hc hl hn' hA =>
    rename_i b c sz' cap A
    have ro := s.at_ hid hE
    have hsz' : sz' = sz := by rw [← hsz]; exact ro.1
    subst hsz'
    obtain rfl := hA.resolve_left (by omega)
    obtain ⟨zv, hzv, hzc⟩ := zeroT_run hz w
    have hnl : (Builtin.zeroCells zv.cells (n + 1)).toList.length = (n + 1) * sz' := by
      rw [zeroCells_list, hzc]; simp [hzl]
    have hlc : l.length ≤ c := by have := ro.2.2.1; rw [hob] at this; exact this
    have hrun := run_storeCells_cells (P := P) b (off * sz') (Builtin.zeroCells zv.cells (n + 1)).toList 0 w (fun j hj => (ro.writable (by
        rw [hnl] at hj
        have : (off + (n + 1)) * sz' ≤ c * sz' := Nat.mul_le_mul_right _ (by omega)
        rw [Nat.add_mul] at this
        omega)).1) (fun j hj => (ro.writable (by
        rw [hnl] at hj
        have : (off + (n + 1)) * sz' ≤ c * sz' := Nat.mul_le_mul_right _ (by omega)
        rw [Nat.add_mul] at this
        omega)).2) (fun v hv => by
        rw [zeroCells_list, hzc] at hv
        obtain ⟨y, hy, hv⟩ := List.mem_flatten.1 hv
        rw [List.eq_of_mem_replicate hy] at hv
        exact List.all_eq_true.1 hz1 v hv)
    simp only [Nat.add_zero] at hrun
    obtain ⟨_, _, hlc', _, hex, cur, fr, hg, hcs, hfr, hcell⟩ := ro
    obtain ⟨cur', g1, g2, g3, g4, g5, gm⟩ := setCells_spec b ob.t fr (Builtin.zeroCells zv.cells (n + 1)).toList (off * sz') cur w hg
    have hrl : (List.replicate (n + 1) (z.map AV.val)).length = n + 1 := by simp
    have hset := sat_set (w' := w.setCells b (off * sz') (Builtin.zeroCells zv.cells (n + 1)).toList) (N := fun id => id = rid ∨ nx ≤ id) (o' := { ob with body := .rows (over l off (List.replicate (n + 1) (z.map .val))) }) s hid hE g1 g4 g5 gm hsz.symm (by rw [g2]; exact hcs)
      (by simp only [Body.len]; rw [over_len _ _ _ (by rw [hrl]; exact hle)]; exact hlc) (fun hh => by have := hex hh; rw [hob] at this; simp only [Body.len] at this ⊢; rw [over_len _ _ _ (by rw [hrl]; exact hle)]; exact this) hfr (fun i' hi' j' hj' => by
        simp only [Body.len] at hi'
        rw [over_len _ _ _ (by rw [hrl]; exact hle)] at hi'
        simp only [Body.cell?, over_get l off (List.replicate (n + 1) (z.map .val)) (by rw [hrl]; exact hle), hrl]
        rw [g3, hnl]
        have hcur : i' * sz' + j' < cur.size := by rw [hcs]; exact flat_lt hj' (by omega)
        by_cases hc2 : off ≤ i' ∧ i' < off + (n + 1)
        · rw [if_pos hc2]
          have ea : i' * sz' + j' = off * sz' + ((i' - off) * sz' + j') := by
            rw [← Nat.add_assoc, ← Nat.add_mul, show off + (i' - off) = i' by omega]
          have hlt : (i' - off) * sz' + j' < (n + 1) * sz' := flat_lt hj' (by omega)
          rw [if_pos ⟨by omega, by omega, hcur⟩, ea, Nat.add_sub_cancel_left, zeroCells_list, hzc, flatten_get hzl _ _ _ (by omega) hj']
          have hjz : j' < z.length := by omega
          exact ⟨.val z[j'], z[j'], by simp [show i' - off < n + 1 by omega, hjz], by simp [hjz], .val _⟩
        · rw [if_neg hc2]
          obtain ⟨x0, v0, e1, e2, e3⟩ := hcell i' (by rw [hob]; exact hi') j' hj'
          rw [hob] at e1
          refine ⟨x0, v0, e1, ?_, e3⟩
          rw [if_neg]
          · exact e2
          · rintro ⟨q1, q2, _⟩
            rcases Nat.lt_or_ge i' off with hlt | hge
            · have := flat_lt (j := j') hj' hlt
              omega
            · have hge2 : off + (n + 1) ≤ i' := by omega
              have : (off + (n + 1)) * sz' ≤ i' * sz' := Nat.mul_le_mul_right _ hge2
              rw [Nat.add_mul] at this
              omega)
    refine .value E _ _ ?_ ⟨hset.1, .val _, hset.2, Nat.le_refl _⟩
    simp [execOp, h, resolve, invoke, builtin, Builtin.clear_, hu, elemT_run ht, hzv, hrun]
/-- is one of the two nil and the other not, seen from what is known? -/
def eqNil (P : Program) (tm : Nat → AV) (ty : TypeId) (x y : Operand) : Bool :=
  (nilT P ty == 1 && match avOf tm x, avOf tm y with
    | .ptr _ _ _, .val (.pointer none) => true
    | .val (.pointer none), .ptr _ _ _ => true
    | _, _ => false) ||
  (nilT P ty == 2 && match avOf tm x, avOf tm y with
    | .sl _ _ n _, .val (.slice none 0 0) => decide (0 < n)
    | .val (.slice none 0 0), .sl _ _ n _ => decide (0 < n)
    | _, _ => false)

theorem rep_ptr {id i j : Nat} {u : Value} (h : Rep E w (.ptr id i j) u) : ∃ p, u = .pointer (some p) := by cases h; exact ⟨_, rfl⟩
theorem rep_slpos {id off n : Nat} {lim : Option Nat} {u : Value} (h : Rep E w (.sl id off n lim) u) (h0 : 0 < n) : ∃ p n c, u = .slice (some p) n c := by
  cases h with
  | slnil => omega
  | sl hE hc hl hn hA =>
    obtain rfl := hA.resolve_left (by omega)
    exact ⟨_, _, _, rfl⟩

theorem eqNil_ok {ty : TypeId} {x y : Operand} (r : RepT E w tm a) (h : eqNil P tm ty x y = true) : (Op.equal ty (a.eval x) (a.eval y)).run P w = .ok false w := by
  unfold eqNil at h
  have rx := r.eval x
  have ry := r.eval y
  simp only [Bool.or_eq_true, Bool.and_eq_true, beq_iff_eq] at h
  apply equal_nil
  rcases h with ⟨h1, h2⟩ | ⟨h1, h2⟩
  · refine .inl ⟨h1, ?_⟩
    split at h2
    · rename_i hx hy
      rw [hx] at rx
      exact .inl ((rep_ptr rx).imp fun p hp => ⟨hp, eval_val r hy⟩)
    · rename_i hx hy
      rw [hy] at ry
      exact .inr ((rep_ptr ry).imp fun p hp => ⟨eval_val r hx, hp⟩)
    · cases h2
  · refine .inr ⟨h1, ?_⟩
    split at h2
    · rename_i hx hy
      rw [hx] at rx
      obtain ⟨p, n, c, e⟩ := rep_slpos rx (by simpa using h2)
      exact .inl ⟨p, n, c, e, eval_val r hy⟩
    · rename_i hx hy
      rw [hy] at ry
      obtain ⟨p, n, c, e⟩ := rep_slpos ry (by simpa using h2)
      exact .inr ⟨p, n, c, eval_val r hx, e⟩
    · cases h2

theorem eqNil_shape {ty : TypeId} {x y : Operand} (r : RepT E w tm a) (h : eqNil P tm ty x y = true) : (∃ p q, a.eval x = .pointer p ∧ a.eval y = .pointer q) ∨ ∃ p n c q m d, a.eval x = .slice p n c ∧ a.eval y = .slice q m d := by
  unfold eqNil at h
  have rx := r.eval x
  have ry := r.eval y
  simp only [Bool.or_eq_true, Bool.and_eq_true, beq_iff_eq] at h
  rcases h with ⟨h1, h2⟩ | ⟨h1, h2⟩
  · split at h2
    · rename_i hx hy
      rw [hx] at rx
      obtain ⟨p, hp⟩ := rep_ptr rx
      exact .inl ⟨_, _, hp, eval_val r hy⟩
    · rename_i hx hy
      rw [hy] at ry
      obtain ⟨p, hp⟩ := rep_ptr ry
      exact .inl ⟨_, _, eval_val r hx, hp⟩
    · cases h2
  · split at h2
    · rename_i hx hy
      rw [hx] at rx
      obtain ⟨p, n, c, e⟩ := rep_slpos rx (by simpa using h2)
      exact .inr ⟨_, _, _, _, _, _, e, eval_val r hy⟩
    · rename_i hx hy
      rw [hy] at ry
      obtain ⟨p, n, c, e⟩ := rep_slpos ry (by simpa using h2)
      exact .inr ⟨_, _, _, _, _, _, eval_val r hx, e⟩
    · cases h2

theorem nil_run {neg : Bool} {ty : TypeId} {x y : Operand} {u v : Value} (h1 : (Op.equal ty u v).run P w = .ok false w) (hs : (∃ p q, u = .pointer p ∧ v = .pointer q) ∨ ∃ p n c q m d, u = .slice p n c ∧ v = .slice q m d) :
    ((do eqGuard (if neg then .neq else .eql) ty x y u v; binOp (if neg then .neq else .eql) ty u v) : Sem Value).run P w = .ok (.bool neg) w := by
  rcases hs with ⟨p, q, rfl, rfl⟩ | ⟨p, n, c, q, m, d, rfl, rfl⟩ <;> cases neg <;> simp [eqGuard, binOp, h1]

theorem ok_eqNil {neg : Bool} {ty : TypeId} {x y : Operand} {tr : TypeId} (s : Sat E nx H w) (r : RepT E w tm a) (h : o.op = .binOp (if neg then .neq else .eql) ty x y tr) (hc : eqNil P tm ty x y = true) : OpOk P o E H a w rid nx ⟨.val (.bool neg), [], nx⟩ := by
  have h1 := nil_run (neg := neg) (x := x) (y := y) (eqNil_ok r hc) (eqNil_shape r hc)
  refine ok_val (u := .bool neg) s ?_ (.val _)
  simp only [Sem.run_bind] at h1
  simp [execOp, h]
  revert h1
  generalize Sem.run P (eqGuard (if neg = true then BinOp.neq else BinOp.eql) ty x y (a.eval x) (a.eval y)) w = g
  intro h1
  cases g with
  | ok z w1 =>
    simp only [Result.andThen_ok] at h1 ⊢
    rw [h1, Result.andThen_ok]
  | _ => cases h1

/-- append of nothing -/
theorem ok_append0 {x y : Operand} {t e : TypeId} {sz : Nat} (s : Sat E nx H w) (r : RepT E w tm a) (h : o.op = .call { callee := .builtin .append, args := #[x, y], argTypes := #[t, t] }) (ht : elemT P t = some e) (hs : szT P e = some sz)
    (hx : ∃ A n c, a.eval x = .slice A n c ∧ n ≤ c) (hy : ∃ A c, a.eval y = .slice A 0 c) : OpOk P o E H a w rid nx ⟨avOf tm x, [], nx⟩ := by
  obtain ⟨A, n, c, h1, h2⟩ := hx
  obtain ⟨B, d, h3⟩ := hy
  obtain ⟨i, hi, hi2⟩ := Option.map_eq_some_iff.1 hs
  have hfc : (Builtin.firstCells i.size 0 (.slice B 0 d)).run P w = .ok #[] w := by
    cases B <;> simp [Builtin.firstCells, loadCells, loadCellsFrom]
  have hrun : (Builtin.append_ #[t, t] o.type #[.slice A n c, .slice B 0 d]).run P w = .ok (.slice A n c) w := by
    cases A <;> simp [Builtin.append_, run_underlying (elemT_under ht), sizeOf, typeInfo, hi, Builtin.lenOf, h2, hfc, storeCells]
  refine ok_val (u := a.eval x) s (append_run h h1 h3 (by rw [h1]; exact hrun)) (r.eval x)

def isEmptyV (tm : Nat → AV) (y : Operand) : Bool :=
  match avOf tm y with
  | .sl _ _ 0 _ => true
  | .val (.slice none 0 0) => true
  | .bytes [] => true
  | _ => false
theorem isEmptyV_ok {y : Operand} (r : RepT E w tm a) (h : isEmptyV tm y = true) : ∃ A c, a.eval y = .slice A 0 c := by
  unfold isEmptyV at h
  have ry := r.eval y
  split at h
  · rename_i hy
    rw [hy] at ry
    generalize a.eval y = u at ry
    cases ry <;> exact ⟨_, _, rfl⟩
  · rename_i hy
    exact ⟨_, _, eval_val r hy⟩
  · rename_i hy
    rw [hy] at ry
    generalize a.eval y = u at ry
    cases ry with
    | bytes hn hc hm hb =>
      rw [List.length_nil] at hn
      subst hn
      exact ⟨_, _, rfl⟩
  · cases h
def isSliceV (tm : Nat → AV) (y : Operand) : Bool :=
  match avOf tm y with
  | .sl _ _ _ _ => true
  | .val (.slice none 0 0) => true
  | _ => false
theorem isSliceV_ok {y : Operand} (r : RepT E w tm a) (h : isSliceV tm y = true) : ∃ A n c, a.eval y = .slice A n c ∧ n ≤ c := by
  unfold isSliceV at h
  have ry := r.eval y
  split at h
  · rename_i hy
    rw [hy] at ry
    generalize a.eval y = u at ry
    cases ry with
    | slnil => exact ⟨_, _, _, rfl, Nat.le_refl _⟩
    | sl hE hc hl hn hA => exact ⟨_, _, _, rfl, by omega⟩
  · rename_i hy
    exact ⟨_, _, _, eval_val r hy, Nat.le_refl _⟩
  · cases h

end
end Go.Proofs.Ytmilcpejchjleaa

/- An engine for walks: arrays and structs that are compared. -/
namespace Go.Proofs.Ytmilcpejchjleaa
open Go.RowKit

def eqIs (P : Program) (f : AV → AV → Option Bool) (e es : Nat) (l1 l2 : List AV) : List Nat → Option Bool
  | [] => some true
  | i :: is =>
    match partA P e l1 (i * es), partA P e l2 (i * es) with
    | some a, some b => match f a b, eqIs P f e es l1 l2 is with
      | some r, some r' => some (r && r')
      | _, _ => none
    | _, _ => none

def eqFs (P : Program) (f : TypeId → AV → AV → Option Bool) (l1 l2 : List AV) : List Field → Option Bool
  | [] => some true
  | x :: fs =>
    if x.name = "_" then none else
    match partA P x.type l1 x.offset, partA P x.type l2 x.offset with
    | some a, some b => match f x.type a b, eqFs P f l1 l2 fs with
      | some r, some r' => some (r && r')
      | _, _ => none
    | _, _ => none

/-- are two values of a type equal? -/
def eqA (P : Program) : Nat → TypeId → AV → AV → Option Bool
  | 0, _, _, _ => none
  | n + 1, t, x, y =>
    match P.underlying t with
    | some (.int _) => match x, y with
      | .val (.int k a), .val (.int k' b) => if k = k' then some (a == b) else none
      | _, _ => none
    | some .bool => match x, y with
      | .val (.bool a), .val (.bool b) => some (a == b)
      | _, _ => none
    | some .string => match x, y with
      | .val (.string a), .val (.string b) => some (a.toList == b.toList)
      | _, _ => none
    | some (.array m e) =>
      match aggCells x, aggCells y, szT P e with
      | some l1, some l2, some es => eqIs P (eqA P n e) e es l1 l2 (List.range m)
      | _, _, _ => none
    | some (.struct fs) =>
      match aggCells x, aggCells y with
      | some l1, some l2 => if P.stoodInHeld t then none else eqFs P (eqA P n) l1 l2 fs.toList
      | _, _ => none
    | _ => none

section
variable {P : Program} {E : Env} {H : Heap} {w : World} {a : Act} {o : Oper} {nx rid : Nat} {tm : Nat → AV}

theorem szT_cells {t : TypeId} {n : Nat} (h : szT P t = some n) : P.cellsOf t = n ∧ ∃ i, P.info? t = some i := by
  unfold szT at h
  obtain ⟨i, h1, h2⟩ := Option.map_eq_some_iff.1 h
  exact ⟨by simp [Program.cellsOf, h1, h2], i, h1⟩

theorem eqA_ok : ∀ (n d : Nat) (t : TypeId) (x y : AV) (B : Bool) (u v : Value), eqA P n t x y = some B → Rep E w x u → Rep E w y v → (Op.equalIn (d + n) t u v).run P w = .ok B w
  | 0, _, _, _, _, _, _, _, h, _, _ => by cases h
  | n + 1, d, t, x, y, B, u, v, h, rx, ry => by
    simp only [eqA] at h
    split at h
    · rename_i q ht
      split at h
      · rename_i k a k' b
        split at h
        · rename_i hk
          subst hk
          injection h with h
          subst h
          rw [rx.val_inv, ry.val_inv]
          exact run_equalIn_int w (d + n) t k q a b ht
        · cases h
      · cases h
    · rename_i ht
      split at h
      · injection h with h
        subst h
        rw [rx.val_inv, ry.val_inv]
        exact run_equalIn_bool' w (d + n) t _ _ ht
      · cases h
    · rename_i ht
      split at h
      · injection h with h
        subst h
        rw [rx.val_inv, ry.val_inv]
        exact run_equalIn_string w (d + n) t _ _ ht
      · cases h
    · rename_i m e ht
      split at h
      · rename_i l1 l2 es h1 h2 h3
        obtain ⟨hc, i, hi⟩ := szT_cells h3
        obtain ⟨xs, rfl, x1, x2⟩ := aggCells_rep h1 rx
        obtain ⟨ys, rfl, y1, y2⟩ := aggCells_rep h2 ry
        show (Op.equalIn ((d + n) + 1) t (.agg xs) (.agg ys)).run P w = _
        rw [run_equalIn_array w (d + n) xs ys ht hi, hc]
        have key : ∀ (is : List Nat) (B : Bool), eqIs P (eqA P n e) e es l1 l2 is = some B → (Op.eqItems (d + n) e es xs ys is).run P w = .ok B w := by
          intro is
          induction is with
          | nil => intro B h; simp only [eqIs, Option.some.injEq] at h; subst h; simp [Op.eqItems]
          | cons i is ih =>
            intro B h
            simp only [eqIs] at h
            split at h
            · rename_i a b ha hb
              split at h
              · rename_i r r' g1 g2
                injection h with h
                subst h
                obtain ⟨u1, k1, k2⟩ := part_run ha x1 x2
                obtain ⟨u2, k3, k4⟩ := part_run hb y1 y2
                have k5 := eqA_ok n d e a b r u1 u2 g1 k2 k4
                simp only [Op.eqItems, Sem.run_bind, k1, k3, k5, Result.andThen_ok]
                cases r
                · simp
                · simpa using ih r' g2
              · cases h
            · cases h
        exact key _ _ h
      · cases h
    · rename_i fs ht
      split at h
      · rename_i l1 l2 h1 h2
        split at h
        · cases h
        · rename_i hst
          obtain ⟨xs, rfl, x1, x2⟩ := aggCells_rep h1 rx
          obtain ⟨ys, rfl, y1, y2⟩ := aggCells_rep h2 ry
          have hfs : P.fieldsOf t = fs := by simp [Program.fieldsOf, ht]
          show (Op.equalIn ((d + n) + 1) t (.agg xs) (.agg ys)).run P w = _
          rw [run_equalIn_struct w (d + n) t xs ys (by rw [hfs]; exact ht) (by simpa using hst), hfs]
          have key : ∀ (gs : List Field) (B : Bool), eqFs P (eqA P n) l1 l2 gs = some B → (Op.eqFields (d + n) xs ys gs).run P w = .ok B w := by
            intro gs
            induction gs with
            | nil => intro B h; simp only [eqFs, Option.some.injEq] at h; subst h; simp [Op.eqFields]
            | cons g gs ih =>
              intro B h
              simp only [eqFs] at h
              split at h
              · cases h
              · rename_i hn
                split at h
                · rename_i a b ha hb
                  split at h
                  · rename_i r r' g1 g2
                    injection h with h
                    subst h
                    obtain ⟨u1, k1, k2⟩ := part_run ha x1 x2
                    obtain ⟨u2, k3, k4⟩ := part_run hb y1 y2
                    have k5 := eqA_ok n d g.type a b r u1 u2 g1 k2 k4
                    simp only [Op.eqFields, hn, ne_eq, not_false_eq_true, if_true, Sem.run_bind, k1, k3, k5, Result.andThen_ok]
                    cases r
                    · simp
                    · simpa using ih r' g2
                  · cases h
                · cases h
          exact key _ _ h
      · cases h
    · cases h

/-- structs and arrays that are compared -/
def eqAgg (P : Program) (tm : Nat → AV) (ty : TypeId) (x y : Operand) : Option Bool :=
  match P.underlying ty with
  | some (.struct _) => if P.eqGuardType P.depth ty then none else eqA P 12 ty (avOf tm x) (avOf tm y)
  | some (.array _ _) => if P.eqGuardType P.depth ty then none else eqA P 12 ty (avOf tm x) (avOf tm y)
  | _ => none

theorem eqA_agg {n : Nat} {t : TypeId} {x y : AV} {B : Bool} (hu : (∃ fs, P.underlying t = some (.struct fs)) ∨ ∃ m e, P.underlying t = some (.array m e)) (he : eqA P (n + 1) t x y = some B) : (∃ l, aggCells x = some l) ∧ ∃ l, aggCells y = some l := by
  simp only [eqA] at he
  rcases hu with ⟨fs, hu⟩ | ⟨m, e, hu⟩ <;> rw [hu] at he <;> simp only at he <;> split at he
  · rename_i g1 g2; exact ⟨⟨_, g1⟩, _, g2⟩
  · cases he
  · rename_i g1 g2 _; exact ⟨⟨_, g1⟩, _, g2⟩
  · cases he

theorem eqAgg_ok {ty : TypeId} {x y : Operand} {B : Bool} (r : RepT E w tm a) (h : eqAgg P tm ty x y = some B) : ∃ xs ys, a.eval x = .agg xs ∧ a.eval y = .agg ys ∧ P.eqGuardType P.depth ty = false ∧ (Op.equalIn 10000 ty (.agg xs) (.agg ys)).run P w = .ok B w := by
  have key : P.eqGuardType P.depth ty = false → (isAgg : (∃ fs, P.underlying ty = some (.struct fs)) ∨ ∃ m e, P.underlying ty = some (.array m e)) → eqA P 12 ty (avOf tm x) (avOf tm y) = some B →
      ∃ xs ys, a.eval x = .agg xs ∧ a.eval y = .agg ys ∧ P.eqGuardType P.depth ty = false ∧ (Op.equalIn 10000 ty (.agg xs) (.agg ys)).run P w = .ok B w := by
    intro hg hu he
    have h1 := eqA_ok 12 9988 ty _ _ B _ _ he (r.eval x) (r.eval y)
    have := eqA_agg (n := 11) hu he
    obtain ⟨⟨l1, e1⟩, l2, e2⟩ := this
    obtain ⟨xs, hx, _⟩ := aggCells_rep e1 (r.eval x)
    obtain ⟨ys, hy, _⟩ := aggCells_rep e2 (r.eval y)
    rw [hx, hy] at h1
    exact ⟨xs, ys, hx, hy, hg, h1⟩
  unfold eqAgg at h
  split at h
  · rename_i fs hu
    split at h
    · cases h
    · rename_i hg
      exact key (by simpa using hg) (.inl ⟨fs, hu⟩) h
  · rename_i m e hu
    split at h
    · cases h
    · rename_i hg
      exact key (by simpa using hg) (.inr ⟨m, e, hu⟩) h
  · cases h

theorem ok_eqAgg {neg : Bool} {ty : TypeId} {x y : Operand} {tr : TypeId} {B : Bool} (s : Sat E nx H w) (r : RepT E w tm a) (h : o.op = .binOp (if neg then .neq else .eql) ty x y tr) (hc : eqAgg P tm ty x y = some B) : OpOk P o E H a w rid nx ⟨.val (.bool (if neg then !B else B)), [], nx⟩ := by
  obtain ⟨xs, ys, hx, hy, hg, he⟩ := eqAgg_ok r hc
  refine ok_val (u := .bool (if neg then !B else B)) s ?_ (.val _)
  have h1 := run_eqGuard_agg (P := P) w (if neg then .neq else .eql) ty x y xs ys hg
  cases neg
  · simp [execOp, h, hx, hy]
    simp only [Bool.false_eq_true, if_false] at h1
    rw [h1]
    simp [run_eql_struct, he]
  · simp [execOp, h, hx, hy]
    simp only [if_true] at h1
    rw [h1]
    simp [run_neq_struct, he]
end
end Go.Proofs.Ytmilcpejchjleaa

/- An engine for walks, eighth part: calls by contract. -/
namespace Go.Proofs.Ytmilcpejchjleaa
open Go.RowKit

def hp : List (Nat × AObj) → Heap
  | [] => fun _ => none
  | (k, o) :: l => fun id => if id = k then some o else hp l id

/-- what a call does: out of these arguments and objects, that value and those objects -/
def ACall (P : Program) (g : FuncId) (args : List AV) (H : List (Nat × AObj)) (nx : Nat) (v : AV) (H' : List (Nat × AObj)) (nx' : Nat) : Prop :=
  ∀ (E : Env) (w : World) (vs : Array Value), Sat E nx (hp H) w → Reps E w args vs → Calls P g vs w fun e w' =>
    ∃ E' u, e = .returned u ∧ Sat E' nx' (hp H') w' ∧ Rep E' w' v u ∧ Ext E (hp H) w (fun id => nx ≤ id) E' (hp H') w'

def Env.frz (E : Env) (B : List Nat) : Env := ⟨E.f, fun b => E.I b ∨ ∃ id, id ∈ B ∧ ∃ c sz, E.f id = some (.at_ b c sz)⟩
def dropH (H : Heap) (B : List Nat) : Heap := fun id => if B.contains id then none else H id

section
variable {P : Program} {E : Env} {H : Heap} {w : World} {a : Act} {o : Oper} {nx rid : Nat} {tm : Nat → AV} {N : Nat → Prop}

theorem dropH_some {B : List Nat} {id : Nat} {x : AObj} : dropH H B id = some x ↔ id ∉ B ∧ H id = some x := by
  unfold dropH
  split <;> rename_i h <;> simp at h <;> simp [h]

theorem more_frz (E : Env) (w : World) (B : List Nat) : More E w (E.frz B) w := ⟨fun _ _ h => h, fun _ h => .inl h, fun _ _ => rfl⟩

theorem sat_frz (s : Sat E nx H w) {B : List Nat} (hB : ∀ id ∈ B, ∃ x, H id = some x) : Sat (E.frz B) nx (dropH H B) w ∧ Ext E H w N (E.frz B) (dropH H B) w := by
  have m := more_frz E w B
  refine ⟨⟨fun k x h => ?_, fun k k' x x' b1 c1 z1 c2 z2 h h' => s.inj _ _ _ _ _ _ _ _ _ (dropH_some.1 h).2 (dropH_some.1 h').2, s.fresh, ?_⟩, ?_⟩
  · obtain ⟨e, h1⟩ := dropH_some.1 h
    obtain ⟨q, hq, r⟩ := s.rows _ _ h1
    refine ⟨q, hq, ?_⟩
    cases q with
    | nil => exact r
    | at_ b c z =>
      refine r.more m ?_ rfl
      rintro (hI | ⟨id, hid, c', z', h2⟩)
      · exact r.2.1 hI
      · obtain ⟨x', hx'⟩ := hB id hid
        have := s.inj _ _ _ _ _ _ _ _ _ h1 hx' hq h2
        subst this
        exact e hid
  · rintro b (hI | ⟨id, hid, c', z', h2⟩)
    · exact s.imm b hI
    · obtain ⟨x', hx'⟩ := hB id hid
      exact s.lt hx' h2
  · refine ⟨fun _ _ h => h, fun _ _ h => .inl h, fun _ h => .inl h, ?_, fun _ _ _ => rfl, ?_, Nat.le_refl _, rfl, rfl, rfl⟩
    · rintro b (hI | ⟨id, hid, c', z', h2⟩)
      · exact .inl hI
      · obtain ⟨x', hx'⟩ := hB id hid
        exact .inr (.inr ⟨id, x', c', z', hx', h2⟩)
    · rintro b ⟨k, x, c1, z1, h, hf1⟩
      exact .inl ⟨k, x, c1, z1, (dropH_some.1 h).2, hf1⟩

/-! ### a value seen as another -/
inductive Co0 where
  | keep
  | eq (x : AV)
  | bytes (xs : List UInt8)
  | any
inductive Co1 where
  | c (c : Co0)
  | agg (l : List Co0)
inductive Co2 where
  | c (c : Co1)
  | tup (l : List Co1)

def idOf : AV → Option Nat
  | .sl id _ _ _ => some id
  | .csl id _ _ _ _ => some id
  | _ => none

def inB (B : List Nat) (x : AV) : Bool :=
  match idOf x with
  | some id => B.contains id
  | none => true

def co0 (H : Heap) (B : List Nat) (x : AV) : Co0 → Option (AV × List Prop)
  | .keep => some (x, [])
  | .eq y => some (y, [x = y])
  | .bytes xs =>
    match bytesOf H x with
    | some (ys, p) => if inB B x = true then some (.bytes xs, [p, ys = xs]) else none
    | none => none
  | .any => some (.any, [])

theorem co0_ok {B : List Nat} {x y : AV} {u : Value} {c : Co0} {l : List Prop} (s : Sat E nx H w) (h : co0 H B x c = some (y, l)) (hl : ∀ q ∈ l, q) (r : Rep E w x u) : Rep (E.frz B) w y u := by
  cases c with
  | keep =>
    simp only [co0, Option.some.injEq, Prod.mk.injEq] at h
    obtain ⟨rfl, rfl⟩ := h
    exact r.more (more_frz E w B)
  | eq z =>
    simp only [co0, Option.some.injEq, Prod.mk.injEq] at h
    obtain ⟨rfl, rfl⟩ := h
    have := hl _ (List.mem_singleton.2 rfl)
    subst this
    exact r.more (more_frz E w B)
  | any =>
    simp only [co0, Option.some.injEq, Prod.mk.injEq] at h
    obtain ⟨rfl, rfl⟩ := h
    exact .any _
  | bytes xs =>
    simp only [co0] at h
    split at h
    · rename_i ys p hb
      split at h
      · rename_i hid
        simp only [Option.some.injEq, Prod.mk.injEq] at h
        obtain ⟨rfl, rfl⟩ := h
        have hp : p := hl _ (by simp)
        have he : ys = xs := hl _ (by simp)
        subst he
        obtain ⟨A, n, c, rfl, hr⟩ := rd_of s hb hp r
        refine .bytes hr.len hr.cap hr.max fun h0 => ?_
        obtain ⟨g, o', hA, _, _, hc⟩ := hr.at_ h0
        refine ⟨g, o', hA, ?_, hc⟩
        subst hA
        cases r with
        | val => simp [bytesOf] at hb
        | bytes hn hcc hm hx =>
          obtain ⟨g', o'', e, hI, _⟩ := hx h0
          cases e
          exact .inl hI
        | sl hE hcc hl' hn hA =>
          simp only [inB, idOf] at hid
          rcases hA with hA | hA
          · omega
          · cases hA
            exact .inr ⟨_, by simpa using hid, _, _, hE⟩
        | csl hE hn hm =>
          simp only [inB, idOf] at hid
          exact .inr ⟨_, by simpa using hid, _, _, hE⟩
        | any => simp [bytesOf] at hb
        | view => simp [bytesOf] at hb
        | opt => simp [bytesOf] at hb
      · cases h
    · cases h

def coL {α β γ : Type} (f : α → γ → Option (β × List Prop)) : List α → List γ → Option (List β × List Prop)
  | [], [] => some ([], [])
  | x :: xs, c :: cs =>
    match f x c, coL f xs cs with
    | some (y, l), some (ys, m) => some (y :: ys, l ++ m)
    | _, _ => none
  | _, _ => none

theorem coL_ok {γ : Type} {f : AV → γ → Option (AV × List Prop)} {R : AV → Value → Prop} {R' : AV → Value → Prop} (hf : ∀ x c y l u, f x c = some (y, l) → (∀ q ∈ l, q) → R x u → R' y u) :
    ∀ (xs : List AV) (cs : List γ) (ys : List AV) (m : List Prop), coL f xs cs = some (ys, m) → (∀ q ∈ m, q) → ys.length = xs.length ∧ ∀ (us : Nat → Option Value), (∀ (k : Nat) x u, xs[k]? = some x → us k = some u → R x u) → ∀ (k : Nat) y u, ys[k]? = some y → us k = some u → R' y u
  | [], [], ys, m, h, _ => by
    simp only [coL, Option.some.injEq, Prod.mk.injEq] at h
    obtain ⟨rfl, rfl⟩ := h
    exact ⟨rfl, fun _ _ k y u hy => by simp at hy⟩
  | x :: xs, c :: cs, ys, m, h, hm => by
    simp only [coL] at h
    split at h
    · rename_i y l ys' m' h1 h2
      simp only [Option.some.injEq, Prod.mk.injEq] at h
      obtain ⟨rfl, rfl⟩ := h
      obtain ⟨e1, e2⟩ := coL_ok hf xs cs ys' m' h2 fun q hq => hm q (List.mem_append_right _ hq)
      refine ⟨by simp [e1], fun us hus k z u hz hu => ?_⟩
      cases k with
      | zero =>
        simp at hz
        subst hz
        exact hf _ _ _ _ _ h1 (fun q hq => hm q (List.mem_append_left _ hq)) (hus 0 x u rfl hu)
      | succ k =>
        simp only [List.getElem?_cons_succ] at hz
        exact e2 (fun k => us (k + 1)) (fun k x u hx hu => hus (k + 1) x u (by simpa using hx) hu) k z u hz hu
    · cases h
  | [], _ :: _, _, _, h, _ => by simp [coL] at h
  | _ :: _, [], _, _, h, _ => by simp [coL] at h

def co1 (H : Heap) (B : List Nat) (x : AV) : Co1 → Option (AV × List Prop)
  | .c c => co0 H B x c
  | .agg cs =>
    match aggCells x with
    | some l => (coL (co0 H B) l cs).map fun (ys, m) => (.agg ys, m)
    | none => none

theorem co1_ok {B : List Nat} {x y : AV} {u : Value} {c : Co1} {l : List Prop} (s : Sat E nx H w) (h : co1 H B x c = some (y, l)) (hl : ∀ q ∈ l, q) (r : Rep E w x u) : Rep (E.frz B) w y u := by
  cases c with
  | c c => exact co0_ok s h hl r
  | agg cs =>
    simp only [co1] at h
    split at h
    · rename_i l' hx
      simp only [Option.map_eq_some_iff, Prod.mk.injEq] at h
      obtain ⟨⟨ys, m⟩, h1, rfl, rfl⟩ := h
      obtain ⟨arr, rfl, hn, hr⟩ := aggCells_rep hx r
      obtain ⟨e1, e2⟩ := coL_ok (R := Rep E w) (R' := Rep (E.frz B) w) (fun x c y l u h hl r => co0_ok s h hl r) _ _ _ _ h1 hl
      exact .agg (by rw [hn, e1]) fun k a v ha hv => e2 (fun k => arr[k]?) (fun k x u hx hu => hr k x u hx hu) k a v ha hv
    · cases h

def co2 (H : Heap) (B : List Nat) (x : AV) : Co2 → Option (AV × List Prop)
  | .c c => co1 H B x c
  | .tup cs =>
    match x with
    | .tup l => (coL (co1 H B) l cs).map fun (ys, m) => (.tup ys, m)
    | _ => none

theorem co2_ok {B : List Nat} {x y : AV} {u : Value} {c : Co2} {l : List Prop} (s : Sat E nx H w) (h : co2 H B x c = some (y, l)) (hl : ∀ q ∈ l, q) (r : Rep E w x u) : Rep (E.frz B) w y u := by
  cases c with
  | c c => exact co1_ok s h hl r
  | tup cs =>
    simp only [co2] at h
    split at h
    · rename_i l'
      simp only [Option.map_eq_some_iff, Prod.mk.injEq] at h
      obtain ⟨⟨ys, m⟩, h1, rfl, rfl⟩ := h
      cases r with
      | tup hn hr =>
        obtain ⟨e1, e2⟩ := coL_ok (R := Rep E w) (R' := Rep (E.frz B) w) (fun x c y l u h hl r => co1_ok s h hl r) _ _ _ _ h1 hl
        exact .tup (by rw [hn, e1]) fun k a v ha hv => e2 _ hr k a v ha hv
    · cases h

/-! ### the call -/
def callable (P : Program) (g : FuncId) : Bool :=
  match P.funcs[g]? with
  | some fn => fn.body.isSome && fn.name != "runtime.NumGoroutine"
  | none => false

theorem call_run {f : Operand} {args : Array Operand} {ts : Array TypeId} {g : FuncId} {cap : Array Value} (h : o.op = .call { callee := .value f, args := args, argTypes := ts }) (hf : a.eval f = .func (.func g) #[] cap) (hc : callable P g = true) :
    (execOp a.eval o).run P w = .ok (.enter g (args.map a.eval ++ cap)) w := by
  unfold callable at hc
  split at hc
  · rename_i fn hfn
    simp only [Bool.and_eq_true, bne_iff_ne, ne_eq] at hc
    obtain ⟨h1, h2⟩ := hc
    obtain ⟨b, hb⟩ := Option.isSome_iff_exists.1 h1
    simp [execOp, h, resolve, hf, Deferred.ofValue, invoke, callFunc, program, Sem.run, hfn, h2, hb]
  · cases hc

/-! ### what a call has left as it was -/
def valEq : Value → Value → Bool
  | .bool a, .bool b => a == b
  | .int k a, .int k' b => k == k' && a == b
  | .string a, .string b => decide (a = b)
  | .pointer none, .pointer none => true
  | .slice none n c, .slice none m d => n == m && c == d
  | _, _ => false

theorem valEq_ok {a b : Value} (h : valEq a b = true) : a = b := by
  unfold valEq at h
  split at h <;> simp_all

def avEq : AV → AV → Bool
  | .val a, .val b => valEq a b
  | .any, .any => true
  | .ptr a b c, .ptr d e f => a == d && (b == e && c == f)
  | .sl a b c d, .sl e f g h => a == e && (b == f && (c == g && d == h))
  | .csl a b c d x, .csl e f g h y => a == e && (b == f && (c == g && (d == h && x == y)))
  | .bytes a, .bytes b => a == b
  | _, _ => false

theorem avEq_ok {a b : AV} (h : avEq a b = true) : a = b := by
  unfold avEq at h
  split at h <;> simp_all
  exact valEq_ok h

def listEq {α : Type} (f : α → α → Bool) : List α → List α → Bool
  | [], [] => true
  | x :: xs, y :: ys => f x y && listEq f xs ys
  | _, _ => false

theorem listEq_ok {α : Type} {f : α → α → Bool} (hf : ∀ a b, f a b = true → a = b) : ∀ (l m : List α), listEq f l m = true → l = m
  | [], [], _ => rfl
  | x :: xs, y :: ys, h => by
    simp only [listEq, Bool.and_eq_true] at h
    rw [hf _ _ h.1, listEq_ok hf xs ys h.2]
  | [], _ :: _, h => by simp [listEq] at h
  | _ :: _, [], h => by simp [listEq] at h

def bodyEq : Body → Body → Bool
  | .rows l, .rows m => listEq (listEq avEq) l m
  | .bytes a, .bytes b => a == b
  | _, _ => false

theorem bodyEq_ok {a b : Body} (h : bodyEq a b = true) : a = b := by
  unfold bodyEq at h
  split at h
  · rw [listEq_ok (fun a b h => listEq_ok (fun a b h => avEq_ok h) a b h) _ _ h]
  · simp at h; rw [h]
  · cases h

def objEq (x y : AObj) : Bool := x.t == y.t && (x.sz == y.sz && (x.exact == y.exact && (x.fz == y.fz && bodyEq x.body y.body)))
theorem objEq_ok {x y : AObj} (h : objEq x y = true) : x = y := by
  obtain ⟨a, b, c, d, e⟩ := x
  obtain ⟨a', b', c', d', e'⟩ := y
  simp only [objEq, Bool.and_eq_true, beq_iff_eq] at h
  obtain ⟨rfl, rfl, rfl, rfl, h⟩ := h
  rw [bodyEq_ok h]

/-- has it turned? -/
def turned (H : Heap) (H' : List (Nat × AObj)) (id : Nat) : Bool :=
  match H id, hp H' id with
  | some x, some y => !(objEq x y)
  | _, _ => true

theorem turned_ok {H : Heap} {H' : List (Nat × AObj)} {id : Nat} (h : turned H H' id = false) : ∃ x, H id = some x ∧ hp H' id = some x := by
  unfold turned at h
  split at h
  · rename_i x y h1 h2
    simp only [Bool.not_eq_eq_eq_not, Bool.not_false] at h
    rw [objEq_ok h] at h1
    exact ⟨y, h1, h2⟩
  · cases h

/-- what has turned behind a call -/
def callUs (cmp : Bool) (H : Heap) (B R : List Nat) (H' : List (Nat × AObj)) : List (Nat × Option AObj) := B.map (fun id => (id, none)) ++ ((R ++ (H'.map (·.1)).filter fun id => !R.contains id).filter fun id => !cmp || turned H H' id).map fun id => (id, hp H' id)

theorem applyU_cases : ∀ (us : List (Nat × Option AObj)) (H : Heap) (k : Nat), (∃ x, (k, x) ∈ us ∧ applyU H us k = x) ∨ ((∀ x, (k, x) ∉ us) ∧ applyU H us k = H k)
  | [], H, k => .inr ⟨fun x => by simp, rfl⟩
  | (i, x) :: us, H, k => by
    have : applyU H ((i, x) :: us) = applyU (upd H i x) us := rfl
    rw [this]
    rcases applyU_cases us (upd H i x) k with ⟨y, h1, h2⟩ | ⟨h1, h2⟩
    · exact .inl ⟨y, List.mem_cons_of_mem _ h1, h2⟩
    · by_cases e : k = i
      · subst e
        exact .inl ⟨x, List.mem_cons_self, by rw [h2, upd_same]⟩
      · refine .inr ⟨fun y hy => ?_, by rw [h2, upd_other _ _ e]⟩
        rcases List.mem_cons.1 hy with hy | hy
        · cases hy; exact e rfl
        · exact h1 y hy

/-- the objects of these numbers -/
def pickH (H : Heap) : List Nat → Option (List (Nat × AObj))
  | [] => some []
  | k :: R =>
    match H k, pickH H R with
    | some x, some l => some ((k, x) :: l)
    | _, _ => none

theorem pickH_ok : ∀ (R : List Nat) (l : List (Nat × AObj)), pickH H R = some l → (∀ k x, hp l k = some x → H k = some x) ∧ ∀ k, k ∉ R → hp l k = none
  | [], l, h => by
    simp only [pickH, Option.some.injEq] at h
    subst h
    exact ⟨fun k x hk => by simp [hp] at hk, fun k _ => rfl⟩
  | i :: R, l, h => by
    simp only [pickH] at h
    split at h
    · rename_i x l' h1 h2
      injection h with h
      subst h
      obtain ⟨e1, e2⟩ := pickH_ok R l' h2
      refine ⟨fun k y hk => ?_, fun k hk => ?_⟩
      · simp only [hp] at hk
        split at hk
        · rename_i e; subst e; rw [h1]; exact hk
        · exact e1 k y hk
      · simp only [List.mem_cons, not_or] at hk
        simp only [hp]
        rw [if_neg hk.1]
        exact e2 k hk.2
    · cases h

theorem coL_keep (H : Heap) (B : List Nat) : ∀ xs : List AV, coL (co1 H B) xs (xs.map fun _ => .c .keep) = some (xs, [])
  | [] => rfl
  | x :: xs => by simp [coL, co1, co0, coL_keep H B xs]

theorem dropH_nil (H : Heap) : dropH H [] = H := by
  funext id
  simp [dropH]

theorem hp_ids : ∀ (L : List (Nat × AObj)) (k : Nat), k ∉ L.map (·.1) → hp L k = none
  | [], _, _ => rfl
  | (i, x) :: L, k, h => by
    simp only [List.map_cons, List.mem_cons, not_or] at h
    simp only [hp]
    rw [if_neg h.1]
    exact hp_ids L k h.2

theorem ok_call {cmp : Bool} {f : Operand} {args : Array Operand} {ts : Array TypeId} {g : FuncId} {caps : List AV} {B R : List Nat} {cs : List Co1} {xs : List AV} {obs : List Prop} {Hf Hf' : List (Nat × AObj)} {v : AV} {nx' : Nat}
    (s : Sat E nx H w) (r : RepT E w tm a) (h : o.op = .call { callee := .value f, args := args, argTypes := ts }) (hf : avOf tm f = .fn (.func g) caps) (hc : callable P g = true)
    (hB : ∀ id ∈ B, ∃ x, H id = some x) (hco : coL (co1 H B) (args.toList.map (avOf tm) ++ caps) cs = some (xs, obs)) (hobs : ∀ q ∈ obs, q) (e1 : ∀ k x, hp Hf k = some x → dropH H B k = some x) (e2 : ∀ k, k ∉ R → hp Hf k = none) (hcall : ACall P g xs Hf nx v Hf' nx') (hle : nx ≤ nx') :
    OpOk P o E H a w rid nx ⟨v, callUs cmp H B R Hf', nx'⟩ := by
  have rf := r.eval f
  rw [hf] at rf
  generalize hu : a.eval f = u at rf
  cases rf with
  | fn hn hr =>
    rename_i capv
    obtain ⟨s1, x1⟩ := sat_frz (N := fun id => id = rid ∨ nx ≤ id) s hB
    refine .enter g (args.map a.eval ++ capv) w (call_run h hu hc) ?_
    obtain ⟨l1, l2⟩ := coL_ok (R := Rep E w) (R' := Rep (E.frz B) w) (fun x c y l u h hl r => co1_ok s h hl r) _ _ _ _ hco hobs
    have hreps : Reps (E.frz B) w xs (args.map a.eval ++ capv) := by
      refine ⟨by simp [l1, hn], fun k b v hb hv => l2 (fun k => (args.map a.eval ++ capv)[k]?) (fun k x u hx hu' => ?_) k b v hb hv⟩
      by_cases hk : k < args.size
      · rw [List.getElem?_append_left (by simpa using hk)] at hx
        rw [Array.getElem?_append_left (by simpa using hk)] at hu'
        simp [hk] at hx hu'
        subst hx hu'
        exact r.eval _
      · rw [List.getElem?_append_right (by simp; omega)] at hx
        rw [Array.getElem?_append_right (by simp; omega)] at hu'
        simp at hx hu'
        exact hr _ _ _ hx hu'
    refine Calls.mono (hcall (E.frz B) w _ (s1.sub e1) hreps) fun e w' hh => ?_
    obtain ⟨E', u', rfl, t1, t2, t3⟩ := hh
    refine ⟨E', u', rfl, ?_⟩
    have hK : ∀ id x, applyU H (callUs cmp H B R Hf') id = some x → hp Hf' id = some x ∨ (dropH H B id = some x ∧ hp Hf id = none) := by
      intro id x hx
      rcases applyU_cases (callUs cmp H B R Hf') H id with ⟨y, h1, h2⟩ | ⟨h1, h2⟩
      · rw [hx] at h2
        subst h2
        simp only [callUs, List.mem_append, List.mem_map, Prod.mk.injEq] at h1
        rcases h1 with ⟨_, _, _, h1⟩ | ⟨k, _, rfl, h1⟩
        · cases h1
        · exact .inl h1
      · rw [hx] at h2
        by_cases hR : id ∈ R
        · by_cases ht : (!cmp || turned H Hf' id) = true
          · refine absurd ?_ (h1 (hp Hf' id))
            simp only [callUs, List.mem_append, List.mem_map]
            exact .inr ⟨id, List.mem_filter.2 ⟨List.mem_append_left _ hR, ht⟩, rfl⟩
          · obtain ⟨y, g1, g2⟩ := turned_ok (H := H) (H' := Hf') (id := id) (by simp only [Bool.or_eq_true, not_or, Bool.not_eq_true] at ht; exact ht.2)
            left
            rw [g2, ← g1, ← h2]
        · right
          refine ⟨dropH_some.2 ⟨fun hb => h1 none ?_, h2.symm⟩, e2 id hR⟩
          simp only [callUs, List.mem_append, List.mem_map]
          exact .inl ⟨id, hb, rfl⟩
    have hfr := Sat.frame s1 e1 t3 t1 hK
    exact ⟨hfr.1, t2, x1.trans hfr.2 (fun _ h => h) (fun id h => .inr h), hle⟩

/-- a call that but reads, and yields a plain value: what it reads goes on as it was -/
theorem ok_callB {f : Operand} {args : Array Operand} {ts : Array TypeId} {g : FuncId} {caps : List AV} {B : List Nat} {cs : List Co1} {xs : List AV} {obs : List Prop} {v : Value} {nx' : Nat}
    (s : Sat E nx H w) (r : RepT E w tm a) (h : o.op = .call { callee := .value f, args := args, argTypes := ts }) (hf : avOf tm f = .fn (.func g) caps) (hc : callable P g = true)
    (hB : ∀ id ∈ B, ∃ x, H id = some x) (hco : coL (co1 H B) (args.toList.map (avOf tm) ++ caps) cs = some (xs, obs)) (hobs : ∀ q ∈ obs, q) (hcall : ACall P g xs [] nx (.val v) [] nx') (hle : nx ≤ nx') :
    OpOk P o E H a w rid nx ⟨.val v, [], nx'⟩ := by
  have rf := r.eval f
  rw [hf] at rf
  generalize hu : a.eval f = u at rf
  cases rf with
  | fn hn hr =>
    rename_i capv
    obtain ⟨s1, x1⟩ := sat_frz (N := fun id => id = rid ∨ nx ≤ id) s hB
    refine .enter g (args.map a.eval ++ capv) w (call_run h hu hc) ?_
    obtain ⟨l1, l2⟩ := coL_ok (R := Rep E w) (R' := Rep (E.frz B) w) (fun x c y l u h hl r => co1_ok s h hl r) _ _ _ _ hco hobs
    have hreps : Reps (E.frz B) w xs (args.map a.eval ++ capv) := by
      refine ⟨by simp [l1, hn], fun k b v hb hv => l2 (fun k => (args.map a.eval ++ capv)[k]?) (fun k x u hx hu' => ?_) k b v hb hv⟩
      by_cases hk : k < args.size
      · rw [List.getElem?_append_left (by simpa using hk)] at hx
        rw [Array.getElem?_append_left (by simpa using hk)] at hu'
        simp [hk] at hx hu'
        subst hx hu'
        exact r.eval _
      · rw [List.getElem?_append_right (by simp; omega)] at hx
        rw [Array.getElem?_append_right (by simp; omega)] at hu'
        simp at hx hu'
        exact hr _ _ _ hx hu'
    refine Calls.mono (hcall (E.frz B) w _ (s1.sub fun id x h => by simp [hp] at h) hreps) fun e w' hh => ?_
    obtain ⟨E', u', rfl, t1, t2, t3⟩ := hh
    have ht2 := t2.val_inv
    subst ht2
    have hmem : ∀ k, k < w.heap.size → w'.heap[k]? = w.heap[k]? := fun k hk => t3.fr k hk fun ⟨id, x, c, z, h1, _⟩ => by simp [hp] at h1
    let E'' : Env := ⟨E'.f, fun b => E'.I b ∧ ¬ ∃ id, id ∈ B ∧ ∃ c sz, E.f id = some (.at_ b c sz)⟩
    have notB : ∀ b, E.I b → ¬ ∃ id, id ∈ B ∧ ∃ c sz, E.f id = some (.at_ b c sz) := by
      rintro b hI ⟨id, hid, c, sz, hE⟩
      obtain ⟨x, hx⟩ := hB id hid
      exact s.notI ⟨id, x, c, sz, hx, hE⟩ hI
    have hII : ∀ b, E''.I b → E.I b ∨ w.heap.size ≤ b := by
      rintro b ⟨h1, h2⟩
      rcases t3.I' b h1 with (h | h) | h | ⟨id, x, c, z, h3, _⟩
      · exact .inl h
      · exact absurd h h2
      · exact .inr h
      · simp [hp] at h3
    have m : More E w E'' w' := ⟨fun id p h => t3.f _ _ h, fun b h => ⟨t3.I _ (.inl h), notB b h⟩, fun b h => hmem b (s.imm b h)⟩
    refine ⟨E'', _, rfl, ⟨⟨fun id x hx => ?_, fun id id' x x' b c1 z1 c2 z2 h1 h2 hf1 hf2 => ?_, t1.fresh, fun b hb => t1.imm b hb.1⟩, .val _, ?_, hle⟩⟩
    · obtain ⟨p, hp', rr⟩ := s.rows _ _ hx
      refine ⟨p, t3.f _ _ hp', ?_⟩
      cases p with
      | nil => exact rr
      | at_ b c z =>
        have hlt := s.lt hx hp'
        refine rr.more m (fun hI => ?_) (hmem b hlt)
        rcases hII b hI with hh | hh
        · exact rr.2.1 hh
        · omega
    · obtain ⟨p, hp1, _⟩ := s.rows _ _ h1
      obtain ⟨q, hq1, _⟩ := s.rows _ _ h2
      have g1 := t3.f _ _ hp1
      have g2 := t3.f _ _ hq1
      have hf1' : E'.f id = some (.at_ b c1 z1) := hf1
      have hf2' : E'.f id' = some (.at_ b c2 z2) := hf2
      rw [hf1'] at g1
      rw [hf2'] at g2
      cases g1
      cases g2
      exact s.inj _ _ _ _ _ _ _ _ _ h1 h2 hp1 hq1
    · refine ⟨m.f, fun id p h => (t3.nw _ _ h).imp (fun h => h) fun h => .inr h, m.I, fun b hb => (hII b hb).imp (fun h => h) .inl, fun b hb _ => hmem b hb, ?_, t3.size, t3.os, t3.tape, t3.output⟩
      rintro b ⟨id, x, c, z, h1, h2⟩
      obtain ⟨p, hp', _⟩ := s.rows _ _ h1
      have g1 := t3.f _ _ hp'
      have h2' : E'.f id = some (.at_ b c z) := h2
      rw [h2'] at g1
      cases g1
      exact .inl ⟨id, x, c, z, h1, hp'⟩
end
end Go.Proofs.Ytmilcpejchjleaa

/- An engine for walks: texts: bytes out of a text, a text's bytes appended. -/
namespace Go.Proofs.Ytmilcpejchjleaa
open Go.RowKit

def isStrT (P : Program) (u : TypeId) : Bool := match P.underlying u with | some .string => true | _ => false
theorem isStrT_ok {P : Program} {u : TypeId} (h : isStrT P u = true) : P.underlying u = some .string := by
  unfold isStrT at h
  split at h
  · assumption
  · cases h

theorem strCells_bv (s : ByteArray) : Lib.strCells s = s.data.toList.map bv := rfl

theorem size_toList (s : ByteArray) : s.data.toList.length = s.size := by rw [Array.length_toList]; rfl

/-- append of a text's bytes -/
theorem run_appS {P : Program} (w : World) {t e u : TypeId} (T : ByteTy P t e) (hu : P.underlying u = some .string) (ty : TypeId) (base : Nat) (A : Option Addr) (n c : Nat) (xs : List UInt8) (hown : Own w base e A n c xs)
    (s : ByteArray) (h63 : n + s.size ≤ 1000000000) (hbase : base ≤ w.heap.size) :
    ∃ A' c' w', (Builtin.append_ #[t, u] ty #[.slice A n c, .string s]).run P w = .ok (.slice A' (n + s.size) c') w' ∧ Own w' base e A' (n + s.size) c' (xs ++ s.data.toList) ∧
      w.grownBy w' (Value.slice A n c).ownBlock ∧ ((Value.slice A' (n + s.size) c').ownBlock = (Value.slice A n c).ownBlock ∨ (Value.slice A' (n + s.size) c').ownBlock = some w.heap.size) := by
  obtain ⟨i, hi', hz0, hz1, hz2⟩ := info_parts T.hi
  have hll : (xs ++ s.data.toList).length = n + s.size := by rw [List.length_append, hown.1, size_toList]
  obtain ⟨v', w', h1, h2, h3, h4⟩ := Lib.run_append_own_string (P := P) w base t u ty e i T.ht hu hi' hz0 hz1 hz2 (.slice A n c) n _ hown.2 s (by simp only [maxLen]; omega) (by omega) hbase
  have hob : v'.ownBlock = (Value.slice A n c).ownBlock ∨ v'.ownBlock = some w.heap.size := by
    rcases hown.2.2 with ⟨hv, hn⟩ | ⟨g, cap, cur, hv, hbg, hg, hnc, hcm, hcs, htake⟩
    · by_cases hs0 : s.size = 0
      · have := h4.2 ⟨hv, hs0⟩
        rw [this, hv]
        exact .inl rfl
      · have hr := run_append_nil_string (P := P) w t u ty e i (.int .u8 0) T.ht hu hi' hz0 s (by omega) (by omega) (by rw [hz2]; omega)
        rw [hv, hr] at h1
        injection h1 with h1 _
        rw [← h1]
        exact .inr rfl
    · injection hv with v1 v2 v3
      subst v1 v3
      by_cases hroom : n + s.size ≤ c
      · have hr := Lib.run_append_room_string (P := P) w t u ty e i T.ht hu hi' hz1 g n c cur hg s hroom (by omega)
        rw [hr] at h1
        injection h1 with h1 _
        rw [← h1]
        exact .inl rfl
      · have holds : ∀ j v, (xs.map bv)[j]? = some v → w.cell? ((⟨g, 0, none⟩ : Addr).add j) = some v := hown.2.cells (g := g) rfl
        have hr := Lib.run_append_grow_string (P := P) w t u ty e i (.int .u8 0) T.ht hu hi' hz0 ⟨g, 0, none⟩ n c (xs.map bv) (by rw [hz1]; simpa using hown.1) holds s (by omega) (by omega) (by rw [hz2]; exact growslice_fits (by omega) (by omega))
        rw [hr] at h1
        injection h1 with h1 _
        rw [← h1]
        exact .inr rfl
  rw [strCells_bv, ← List.map_append] at h2
  obtain ⟨A', c', rfl⟩ := own_form h2
  exact ⟨A', c', w', h1, ⟨hll, h2⟩, h3, hob⟩

section
variable {P : Program} {E : Env} {H : Heap} {w : World} {a : Act} {o : Oper} {nx rid : Nat} {tm : Nat → AV}

theorem appendS_text {H0 : Heap} {A : Option Addr} {n c : Nat} {ys : List UInt8} {t u ty e : TypeId} {st : ByteArray} {nx' : Nat} (s0 : Sat E nx H0 w) (s : Sat E nx H w) (h0 : ∀ id o, H id = some o → H0 id = some o)
    (hr : E.f rid = none) (hnx : nx ≤ nx') (hrid : rid < nx') (T : ByteTy P t e) (hu : P.underlying u = some .string) (hown : Own w 0 e A n c ys) (hrow : ∀ b, (Value.slice A n c).ownBlock = some b → Hb E H0 b ∧ ¬ Hb E H b)
    (h63 : ys.length + st.size ≤ 1000000000) :
    ∃ E' w' v, (Builtin.append_ #[t, u] ty #[.slice A n c, .string st]).run P w = .ok v w' ∧ Sat E' nx' (upd H rid (some (objApp e (ys ++ st.data.toList)))) w' ∧
      Rep E' w' (.sl rid 0 (ys.length + st.size) none) v ∧ Ext E H0 w (fun id => id = rid) E' (upd H rid (some (objApp e (ys ++ st.data.toList)))) w' := by
  have hnl := hown.1
  subst hnl
  have hll : (ys ++ st.data.toList).length = ys.length + st.size := by rw [List.length_append, size_toList]
  obtain ⟨A', c', w', hrun, hown', hgr, hat⟩ := run_appS (P := P) w T hu ty 0 A ys.length c ys hown st h63 (Nat.zero_le _)
  rcases hown'.2.2 with ⟨hv, hn0⟩ | ⟨g, cap, cur, hv, _, hgg, hnc, hm, hs, ht⟩
  · injection hv with v1 v2 v3
    subst v1 v3
    have := sat_put (p := .nil) (ob := objApp e (ys ++ st.data.toList)) s0 s h0 hr hnx hrid hrow hgr ⟨by simp only [objApp, Body.len]; rw [hll]; exact hn0, rfl⟩
    refine ⟨_, w', _, hrun, this.1, ?_, this.2⟩
    rw [v2]
    exact .slnil (Env.put_same _ _ _) rfl
  · injection hv with v1 v2 v3
    subst v1 v3
    have hrow' : (Value.slice A ys.length c).ownBlock = some g ∨ w.heap.size ≤ g := by
      rcases hat with hat | hat
      · left; rw [← hat]; rfl
      · right; simp [Value.ownBlock] at hat; omega
    have := sat_put (p := .at_ g c' 1) (ob := objApp e (ys ++ st.data.toList)) s0 s h0 hr hnx hrid hrow hgr ⟨rfl, hrow', by simp only [objApp, Body.len]; rw [hll]; omega, hm, rfl, cur, hgg, by omega, fun i hi j hj => by
      obtain rfl : j = 0 := by omega
      simp only [objApp, Body.len] at hi
      refine ⟨.val (bv (ys ++ st.data.toList)[i]), bv (ys ++ st.data.toList)[i], by simp only [objApp, Body.cell?, if_true, List.getElem?_eq_getElem hi, Option.map_some], ?_, .val _⟩
      have h1 : (cur.toList.take ((ys.length + st.size) * 1))[i]? = some (bv (ys ++ st.data.toList)[i]) := by
        rw [ht, List.getElem?_map, List.getElem?_eq_getElem hi]
        rfl
      rw [List.getElem?_take] at h1
      split at h1
      · simpa using h1
      · cases h1⟩
    refine ⟨_, w', _, hrun, this.1, ?_, this.2⟩
    exact .sl (cap := c') (b := g) (c := c') (sz := 1) (Env.put_same _ _ _) rfl (Nat.le_refl _) hnc (.inr (by simp))

theorem append_run2 {x y : Operand} {t t' : TypeId} {u v : Value} (h : o.op = .call { callee := .builtin .append, args := #[x, y], argTypes := #[t, t'] }) {w' : World} {r : Value} (hx : a.eval x = u) (hy : a.eval y = v)
    (hr : (Builtin.append_ #[t, t'] o.type #[u, v]).run P w = .ok r w') : (execOp a.eval o).run P w = .ok (.value r) w' := by
  simp [execOp, h, resolve, invoke, builtin, hx, hy, hr]

theorem ok_appendStrSl {x y : Operand} {t t' e : TypeId} {id n : Nat} {ob : AObj} {ys : List UInt8} {st : ByteArray} {nx' : Nat} (s : Sat E nx H w) (r : RepT E w tm a) (hr : E.f rid = none) (hnx : nx ≤ nx') (hrid : rid < nx') (h : o.op = .call { callee := .builtin .append, args := #[x, y], argTypes := #[t, t'] })
    (ht : elemT P t = some e) (hb : byteTB P e = true) (hstr : P.underlying t' = some .string) (hx : avOf tm x = .sl id 0 n none) (hid : H id = some ob) (hob : ob.body = .bytes ys) (hsz : ob.sz = 1) (hfz : ob.fz = false) (hot : ob.t = e) (hn : ys.length = n)
    (hy : avOf tm y = .val (.string st)) (h63 : ys.length + st.size ≤ 1000000000) :
    OpOk P o E H a w rid nx ⟨.sl rid 0 (ys.length + st.size) none, [(id, none), (rid, some (objApp e (ys ++ st.data.toList)))], nx'⟩ := by
  have hv := eval_val r hy
  have rx := r.eval x
  rw [hx] at rx
  generalize hu : a.eval x = u at rx
  have s1 : Sat E nx (upd H id none) w := s.sub fun k q hk => by
    by_cases e : k = id
    · subst e; rw [upd_same] at hk; cases hk
    · rwa [upd_other _ _ e] at hk
  have h0 : ∀ k q, upd H id none k = some q → H k = some q := fun k q hk => by
    by_cases e : k = id
    · subst e; rw [upd_same] at hk; cases hk
    · rwa [upd_other _ _ e] at hk
  have fin : ∀ A c, u = .slice A n c → Own w 0 e A n c ys → (∀ b, (Value.slice A n c).ownBlock = some b → Hb E H b ∧ ¬ Hb E (upd H id none) b) →
      OpOk P o E H a w rid nx ⟨.sl rid 0 (ys.length + st.size) none, [(id, none), (rid, some (objApp e (ys ++ st.data.toList)))], nx'⟩ := by
    intro A c hA hown hrow
    subst hA
    obtain ⟨E', w', u', h1, h2, h3, h4⟩ := appendS_text (ty := o.type) s s1 h0 hr hnx hrid (byteTB_ok hb ht) hstr hown hrow h63
    exact .value E' w' u' (append_run2 h hu hv h1) ⟨h2, h3, h4.weaken fun id e => .inl e, hnx⟩
  cases rx with
  | slnil hE hl =>
    have : ys = [] := List.eq_nil_of_length_eq_zero hn
    subst this
    exact fin none 0 rfl (Own.none_ w 0 e) (fun b hb => by simp [Value.ownBlock] at hb)
  | sl hE hc hl hn' hA =>
    rename_i b c sz cap A
    have ro := s.at_ hid hE
    have h1 : sz = ob.sz := ro.1
    obtain rfl : sz = 1 := by omega
    simp only [Option.getD_none, Nat.add_zero] at hc
    subst hc
    obtain rfl := hA.resolve_left (by omega)
    simp only [Nat.zero_mul] at fin ⊢
    obtain ⟨_, _, hlen, hmx, _, cur, fr, hg, hs, hfr, hcell⟩ := ro
    have hfr0 : fr = (0, 0) := hfr.resolve_right fun h => by rw [hfz] at h; cases h.1
    subst hfr0
    rw [hot] at hg
    refine fin (some ⟨b, 0, none⟩) cap (by simp) ⟨hn, by simp [hn], .inr ⟨b, cap, cur, rfl, Nat.zero_le _, hg, hn', hmx, by omega, ?_⟩⟩ (fun b' hb' => ?_)
    · apply List.ext_getElem?
      intro k
      rw [List.getElem?_take]
      by_cases hk : k < n
      · have hk' : k < ob.body.len := by rw [hob]; simp only [Body.len]; omega
        obtain ⟨a', v, e1, e2, e3⟩ := hcell k hk' 0 (by omega)
        rw [hob] at e1
        have hky : k < ys.length := by omega
        simp only [Body.cell?, if_true, List.getElem?_eq_getElem hky, Option.map_some, Option.some.injEq] at e1
        subst e1
        have := e3.val_inv
        subst this
        simp only [Nat.mul_one, Nat.add_zero] at e2
        simp [hk, hky, e2]
      · rw [if_neg (by omega), List.getElem?_eq_none (by simp; omega)]
    · simp only [Value.ownBlock, Option.some.injEq] at hb'
      subst hb'
      refine ⟨⟨id, ob, cap, 1, hid, hE⟩, ?_⟩
      rintro ⟨k, q, c2, z2, hk, hf⟩
      have hne : k ≠ id := fun e => by subst e; rw [upd_same] at hk; cases hk
      rw [upd_other _ _ hne] at hk
      exact hne (s.inj _ _ _ _ _ _ _ _ _ hk hid hf hE)

theorem ok_appendStrNil {x y : Operand} {t t' e : TypeId} {st : ByteArray} {nx' : Nat} (s : Sat E nx H w) (r : RepT E w tm a) (hr : E.f rid = none) (hnx : nx ≤ nx') (hrid : rid < nx') (h : o.op = .call { callee := .builtin .append, args := #[x, y], argTypes := #[t, t'] })
    (ht : elemT P t = some e) (hb : byteTB P e = true) (hstr : P.underlying t' = some .string) (hx : avOf tm x = .val (.slice none 0 0)) (hy : avOf tm y = .val (.string st)) (h63 : st.size ≤ 1000000000) :
    OpOk P o E H a w rid nx ⟨.sl rid 0 st.size none, [(rid, some (objApp e st.data.toList))], nx'⟩ := by
  obtain ⟨E', w', u', h1, h2, h3, h4⟩ := appendS_text (ty := o.type) s s (fun _ _ h => h) hr hnx hrid (byteTB_ok hb ht) hstr (Own.none_ w 0 e) (fun b hb => by simp [Value.ownBlock] at hb) (by simpa using h63)
  simp only [List.nil_append, List.length_nil, Nat.zero_add] at h2 h3 h4
  exact .value E' w' u' (append_run2 h (eval_val r hx) (eval_val r hy) h1) ⟨h2, h3, h4.weaken fun id e => .inl e, hnx⟩

/-- a text's byte -/
theorem ok_indexStr {x ix : Operand} {t : TypeId} {st : ByteArray} {k : IntKind} {z : Int} (s : Sat E nx H w) (r : RepT E w tm a) (h : o.op = .index t x ix) (ht : P.underlying t = some .string) (hx : avOf tm x = .val (.string st)) (hi : avOf tm ix = .val (.int k z)) (hz : 0 ≤ z ∧ z.toNat < st.size) :
    OpOk P o E H a w rid nx ⟨.val (.int .u8 ((st.data.toList.getD z.toNat 0).toNat : Int)), [], nx⟩ := by
  refine ok_val s ?_ (.val _)
  have hb : st[z.toNat]? = some (st.data.toList.getD z.toNat 0) := by
    have hz2 : z.toNat < st.data.size := hz.2
    have e1 : st[z.toNat]'hz.2 = st.data[z.toNat]'hz2 := rfl
    rw [getElem?_pos st z.toNat hz.2, e1, List.getD_eq_getElem?_getD, Array.getElem?_toList, Array.getElem?_eq_getElem hz2, Option.getD_some]
  simp [execOp, h, eval_val r hx, eval_val r hi, Instr.index, asIntOf, run_underlying ht, hz.1, hb]

/-- bytes out of a text -/
theorem ok_bytesOfStr {x : Operand} {t dst e : TypeId} {st : ByteArray} {nx' : Nat} (s : Sat E nx H w) (r : RepT E w tm a) (hr : E.f rid = none) (hnx : nx ≤ nx') (hrid : rid < nx') (h : o.op = .convert t dst x) (ht : P.underlying t = some .string) (hd : elemT P dst = some e) (hb : byteTB P e = true)
    (hx : avOf tm x = .val (.string st)) (h63 : st.size ≤ 1000000000) :
    OpOk P o E H a w rid nx ⟨.sl rid 0 st.size none, [(rid, some { objApp e st.data.toList with fz := true })], nx'⟩ := by
  have T := byteTB_ok hb hd
  have hrun := run_bytes_of_string (P := P) w t dst e st ht T.ht T.hb
  have hge := grownCap_ge w st.size 0 e
  have hcm : grownCap w st.size 0 e ≤ maxLen := grownCap_le_maxLen w st.size 0 e (by simp only [maxLen]; omega)
  generalize grownCap w st.size 0 e = c at *
  have hcs : (bytesRow st c).size = c := by
    unfold bytesRow
    rw [Array.size_append, Array.size_map, Array.size_replicate]
    have : st.data.size = st.size := rfl
    omega
  have hnew := sat_new (w' := w.drew.alloc (.cells (bytesRow st c) e ((bytesRow st c).size, (bytesRow st c).size + 1))) (o := { objApp e st.data.toList with fz := true }) (c := c) s hr hnx hrid rfl ⟨rfl, rfl, rfl⟩ (by simp only [objApp]; omega)
    (by simp only [objApp, Body.len]; rw [size_toList]; exact hge) hcm (fun h => by simp [objApp] at h) (.inr ⟨rfl, by simp only [objApp, hcs]; omega⟩) (fun i hi j hj => by
      simp only [objApp] at hj
      obtain rfl : j = 0 := by omega
      simp only [objApp, Body.len] at hi
      refine ⟨.val (bv st.data.toList[i]), bv st.data.toList[i], by simp only [objApp, Body.cell?, if_true, List.getElem?_eq_getElem hi, Option.map_some], ?_, .val _⟩
      have hi' : i < st.data.size := by simpa using hi
      have hi2 : i < st.size := hi'
      simp [objApp, bytesRow, bv, Array.getElem?_append, hi2])
  refine .value _ _ _ ?_ ⟨hnew.1, .sl (cap := c) (b := w.heap.size) (c := c) (sz := 1) (Env.put_same _ _ _) rfl (Nat.le_refl _) hge (.inr (by rw [Nat.zero_mul])), hnew.2.weaken fun id e => .inl e, hnx⟩
  simp [execOp, h, eval_val r hx, hrun]
end
end Go.Proofs.Ytmilcpejchjleaa

/- An engine for walks: rows whose values lead to no object of the walk's own ('flat'): what is reckoned of rows is reckoned of them. -/
namespace Go.Proofs.Ytmilcpejchjleaa
open Go.RowKit

structure AObj.Eqv (x y : AObj) : Prop where
  t : y.t = x.t
  sz : y.sz = x.sz
  exact : y.exact = x.exact
  fz : y.fz = x.fz
  len : y.body.len = x.body.len
  cell : ∀ i j, y.body.cell? i j = x.body.cell? i j

theorem AObj.Eqv.refl (x : AObj) : x.Eqv x := ⟨rfl, rfl, rfl, rfl, rfl, fun _ _ => rfl⟩
theorem AObj.Eqv.symm {x y : AObj} (h : x.Eqv y) : y.Eqv x := ⟨h.t.symm, h.sz.symm, h.exact.symm, h.fz.symm, h.len.symm, fun i j => (h.cell i j).symm⟩

def AObj.unflat : AObj → AObj
  | ⟨t, sz, ex, fz, .flat l⟩ => ⟨t, sz, ex, fz, .rows l⟩
  | ⟨t, sz, ex, fz, .rows l⟩ => ⟨t, sz, ex, fz, .rows l⟩
  | ⟨t, sz, ex, fz, .bytes l⟩ => ⟨t, sz, ex, fz, .bytes l⟩
def AObj.flatO : AObj → AObj
  | ⟨t, sz, ex, fz, .rows l⟩ => ⟨t, sz, ex, fz, .flat l⟩
  | ⟨t, sz, ex, fz, .flat l⟩ => ⟨t, sz, ex, fz, .flat l⟩
  | ⟨t, sz, ex, fz, .bytes l⟩ => ⟨t, sz, ex, fz, .bytes l⟩
def AObj.isFlat (x : AObj) : Bool := match x.body with | .flat _ => true | _ => false

theorem AObj.unflat_eqv (x : AObj) : x.Eqv x.unflat := by
  obtain ⟨t, sz, ex, fz, body⟩ := x
  cases body <;> exact ⟨rfl, rfl, rfl, rfl, rfl, fun _ _ => rfl⟩
theorem AObj.flatO_eqv (x : AObj) : x.Eqv x.flatO := by
  obtain ⟨t, sz, ex, fz, body⟩ := x
  cases body <;> exact ⟨rfl, rfl, rfl, rfl, rfl, fun _ _ => rfl⟩

def unflatH (H : Heap) : Heap := fun id => (H id).map AObj.unflat
def reflat : Bool → List (Nat × Option AObj) → List (Nat × Option AObj)
  | false, us => us
  | true, us => us.map fun u => (u.1, u.2.map AObj.flatO)
def anyFlat (H : Heap) (us : List (Nat × Option AObj)) : Bool := us.any fun u => match H u.1 with | some x => x.isFlat | none => false

def OEqv : Option AObj → Option AObj → Prop
  | none, none => True
  | some x, some y => x.Eqv y
  | _, _ => False
def HEqv (H K : Heap) : Prop := ∀ id, OEqv (H id) (K id)

theorem OEqv.refl : ∀ x : Option AObj, OEqv x x
  | none => trivial
  | some x => AObj.Eqv.refl x
theorem OEqv.symm {x y : Option AObj} (h : OEqv x y) : OEqv y x := by
  cases x <;> cases y <;> first | exact h | exact h.elim | exact AObj.Eqv.symm h
theorem HEqv.symm {H K : Heap} (h : HEqv H K) : HEqv K H := fun id => (h id).symm
theorem OEqv.some_inv {x : Option AObj} {y : AObj} (h : OEqv x (some y)) : ∃ z, x = some z ∧ z.Eqv y := by
  cases x with
  | none => exact h.elim
  | some z => exact ⟨z, rfl, h⟩

theorem unflatH_eqv (H : Heap) : HEqv H (unflatH H) := fun id => by
  unfold unflatH
  cases H id with
  | none => trivial
  | some x => exact x.unflat_eqv

theorem reflat_eqv (b : Bool) (us : List (Nat × Option AObj)) : ∀ {H K : Heap}, HEqv H K → HEqv (applyU H us) (applyU K (reflat b us)) := by
  cases b with
  | false =>
    induction us with
    | nil => intro H K h; exact h
    | cons u us ih =>
      intro H K h
      exact ih (H := upd H u.1 u.2) (K := upd K u.1 u.2) fun id => by
        unfold upd
        split
        · exact OEqv.refl _
        · exact h id
  | true =>
    induction us with
    | nil => intro H K h; exact h
    | cons u us ih =>
      intro H K h
      exact ih (H := upd H u.1 u.2) (K := upd K u.1 (u.2.map AObj.flatO)) fun id => by
        unfold upd
        split
        · cases u.2 with
          | none => trivial
          | some x => exact x.flatO_eqv
        · exact h id

section
variable {P : Program} {E E' : Env} {H K H' K' : Heap} {w w' : World} {nx : Nat} {N : Nat → Prop}

theorem ORep.eqv {x y : AObj} (h : x.Eqv y) {p : Place} (r : ORep E w x p) : ORep E w y p := by
  cases p with
  | nil =>
    obtain ⟨h1, h2⟩ := r
    exact ⟨by rw [h.len]; exact h1, by rw [h.exact]; exact h2⟩
  | at_ b c sz =>
    obtain ⟨h1, h2, h3, h4, h5, cur, fr, h6, h7, h8, h9⟩ := r
    refine ⟨by rw [h.sz]; exact h1, h2, by rw [h.len]; exact h3, h4, by rw [h.exact, h.len]; exact h5, cur, fr, by rw [h.t]; exact h6, h7, by rw [h.fz]; exact h8, fun i hi j hj => ?_⟩
    obtain ⟨a, v, e1, e2, e3⟩ := h9 i (by rw [← h.len]; exact hi) j hj
    exact ⟨a, v, by rw [h.cell]; exact e1, e2, e3⟩

theorem Sat.eqv (s : Sat E nx H w) (h : HEqv H K) : Sat E nx K w := by
  have key : ∀ id y, K id = some y → ∃ x, H id = some x ∧ x.Eqv y := fun id y hy => by
    have := h id
    rw [hy] at this
    exact this.some_inv
  refine ⟨fun id y hy => ?_, fun id id' y y' b c z c' z' h1 h2 => ?_, s.fresh, s.imm⟩
  · obtain ⟨x, hx, e⟩ := key id y hy
    obtain ⟨p, hp, r⟩ := s.rows _ _ hx
    exact ⟨p, hp, r.eqv e⟩
  · obtain ⟨x, hx, _⟩ := key _ _ h1
    obtain ⟨x', hx', _⟩ := key _ _ h2
    exact s.inj _ _ _ _ _ _ _ _ _ hx hx'

theorem Hb.eqv (h : HEqv H K) {b : Nat} (hb : Hb E K b) : Hb E H b := by
  obtain ⟨id, y, c, sz, h1, h2⟩ := hb
  have := h id
  rw [h1] at this
  obtain ⟨x, hx, _⟩ := this.some_inv
  exact ⟨id, x, c, sz, hx, h2⟩

theorem Ext.eqv (x : Ext E H w N E' H' w') (h : HEqv H K) (h' : HEqv H' K') : Ext E K w N E' K' w' :=
  ⟨x.f, x.nw, x.I, fun b hb => (x.I' b hb).imp_right fun y => y.imp_right (Hb.eqv h.symm), fun b h1 h2 => x.fr b h1 fun hb => h2 (Hb.eqv h.symm hb), fun b hb => (x.hb b (Hb.eqv h' hb)).imp_left (Hb.eqv h.symm), x.size, x.os, x.tape, x.output⟩

theorem Post.eqv {rid nx : Nat} {v : AV} {us us' : List (Nat × Option AObj)} {n : Nat} {u : Value} (p : Post E H w rid nx ⟨v, us, n⟩ E' w' u) (h : HEqv H K) (h' : HEqv (applyU H us) (applyU K us')) : Post E K w rid nx ⟨v, us', n⟩ E' w' u :=
  ⟨p.sat.eqv h', p.rep, p.ext.eqv h h', p.le⟩

theorem OpOk.eqv {o : Oper} {a : Act} {rid nx : Nat} {v : AV} {us us' : List (Nat × Option AObj)} {n : Nat} (ok : OpOk P o E H a w rid nx ⟨v, us, n⟩) (h : HEqv H K) (h' : HEqv (applyU H us) (applyU K us')) : OpOk P o E K a w rid nx ⟨v, us', n⟩ := by
  cases ok with
  | value E' w' u hr p => exact .value E' w' u hr (p.eqv h h')
  | skip E' w' hr p => exact .skip E' w' hr (p.eqv h h')
  | enter g args w1 hr c => exact .enter g args w1 hr (Calls.mono c fun e w' ⟨E', u, he, p⟩ => ⟨E', u, he, p.eqv h h'⟩)
end
end Go.Proofs.Ytmilcpejchjleaa

/- An engine for walks: copy of bytes, into bytes or into cells of a row. -/
namespace Go.Proofs.Ytmilcpejchjleaa
open Go.RowKit

section
variable {P : Program} {E : Env} {H : Heap} {w : World} {a : Act} {o : Oper} {nx rid : Nat} {tm : Nat → AV}

theorem copy_run {x y : Operand} {t t' e : TypeId} {b k0 n cp k : Nat} {A : Option Addr} {m c : Nat} {xs : List UInt8} (h : o.op = .call { callee := .builtin .copy, args := #[x, y], argTypes := #[t, t'] }) (T : ByteTy P t e)
    (hx : a.eval x = .slice (some ⟨b, k0, none⟩) n cp) (hy : a.eval y = .slice A m c) (rd : Rd w 0 w.heap.size A m c xs) (hk : k = Nat.min m n) (h0 : 0 < k)
    (hc : ∀ j, j < k → (w.cell? ⟨b, k0 + j, none⟩).isSome = true ∧ w.frozen? ⟨b, k0 + j, none⟩ = false) :
    (execOp a.eval o).run P w = .ok (.value (goInt k)) (w.setCells b k0 ((xs.take k).map bv)) := by
  have hi : (P.info? e).map (·.size) = some 1 := by
    have := T.hi
    cases hq : P.info? e with
    | none => simp [hq] at this
    | some i => simp [hq] at this; simp [this]
  have hm : k ≤ m := by rw [hk]; exact Nat.min_le_left _ _
  obtain ⟨g, o', rfl, _, _, hcell⟩ := rd.at_ (by omega)
  have hl : ((xs.take k).map bv).length = k := by simp [rd.len]; omega
  have hrun := run_copy_cells (P := P) w t t' o.type e b k0 n cp ⟨g, o', none⟩ m c ((xs.take k).map bv) T.ht hi (by rw [hl]; exact hk)
    (fun j v hj => by
      rw [add_zero_spot]
      rw [List.getElem?_map, List.getElem?_take] at hj
      split at hj
      · obtain ⟨z, hz, rfl⟩ := Option.map_eq_some_iff.1 hj
        exact hcell j z hz
      · simp at hj)
    (fun j hj => (hc j (by rw [hl] at hj; exact hj)).1) (fun j hj => (hc j (by rw [hl] at hj; exact hj)).2) (fun v hv => by
      obtain ⟨z, _, rfl⟩ := List.mem_map.1 hv
      rfl)
  rw [hl] at hrun
  simp [execOp, h, resolve, invoke, builtin, hx, hy, hrun]

theorem getElem?_over {α : Type} (ys xs : List α) (off i : Nat) (h : off + xs.length ≤ ys.length) : (ys.take off ++ (xs ++ ys.drop (off + xs.length)))[i]? = if off ≤ i ∧ i < off + xs.length then xs[i - off]? else ys[i]? := by
  by_cases h1 : i < off
  · rw [if_neg (by omega), List.getElem?_append_left (by simp; omega), List.getElem?_take, if_pos h1]
  · have ht : (ys.take off).length = off := by simp; omega
    rw [List.getElem?_append_right (by omega), ht]
    by_cases h2 : i < off + xs.length
    · rw [if_pos ⟨by omega, h2⟩, List.getElem?_append_left (by omega)]
    · rw [if_neg (by omega), List.getElem?_append_right (by omega), List.getElem?_drop]
      congr 1
      omega

theorem ok_copyB {x y : Operand} {t t' e : TypeId} {id off n : Nat} {lim : Option Nat} {ob : AObj} {ys xs : List UInt8} {p : Prop} (s : Sat E nx H w) (r : RepT E w tm a) (h : o.op = .call { callee := .builtin .copy, args := #[x, y], argTypes := #[t, t'] })
    (ht : elemT P t = some e) (hb : byteTB P e = true) (hx : avOf tm x = .sl id off n lim) (hid : H id = some ob) (hob : ob.body = .bytes ys) (hsz1 : ob.sz = 1)
    (hy : bytesOf H (avOf tm y) = some (xs, p)) (hp : p) (h0 : 0 < xs.length) (hn : xs.length ≤ n) (hfit : off + xs.length ≤ ys.length) :
    OpOk P o E H a w rid nx ⟨.val (goInt xs.length), [(id, some { ob with body := .bytes (ys.take off ++ (xs ++ ys.drop (off + xs.length))) })], nx⟩ := by
  obtain ⟨A1, m, c1, hv, hrd⟩ := rd_of s hy hp (r.eval y)
  have hm := hrd.len
  have rx := r.eval x
  rw [hx] at rx
  generalize hu : a.eval x = u at rx
  cases rx with
  | slnil hE hl => omega
  | sl hE hc hl hn' hA =>
    rename_i b c sz cap A
    have ro := s.at_ hid hE
    have hsz : sz = ob.sz := ro.1
    obtain rfl : sz = 1 := by omega
    obtain rfl := hA.resolve_left (by omega)
    have hlc : ys.length ≤ c := by have := ro.2.2.1; rw [hob] at this; exact this
    have hrun := copy_run (b := b) (k0 := off * 1) (k := xs.length) h (byteTB_ok hb ht) hu hv hrd (by rw [← hm]; exact (Nat.min_eq_left hn).symm) h0 (fun j hj => ro.writable (by omega))
    obtain ⟨_, _, _, _, hex, cur, fr, hg, hcs, hfr, hcell⟩ := ro
    rw [List.take_of_length_le (Nat.le_refl _)] at hrun
    obtain ⟨cur', g1, g2, g3, g4, g5, gm⟩ := setCells_spec b ob.t fr (xs.map bv) (off * 1) cur w hg
    have hlen : (ys.take off ++ (xs ++ ys.drop (off + xs.length))).length = ys.length := by simp; omega
    have hset := sat_set (w' := w.setCells b (off * 1) (xs.map bv)) (N := fun id => id = rid ∨ nx ≤ id) (o' := { ob with body := .bytes (ys.take off ++ (xs ++ ys.drop (off + xs.length))) }) s hid hE g1 g4 g5 gm hsz (by rw [g2]; exact hcs)
      (by show (ys.take off ++ (xs ++ ys.drop (off + xs.length))).length ≤ c; rw [hlen]; exact hlc)
      (fun hh => by have := hex hh; rw [hob] at this; show c = (ys.take off ++ (xs ++ ys.drop (off + xs.length))).length; rw [hlen]; exact this) hfr (by
        intro i' hi' j' hj'
        simp only [Body.len] at hi'
        rw [hlen] at hi'
        obtain rfl : j' = 0 := by omega
        rw [g3]
        obtain ⟨a', v', e1, e2, e3⟩ := hcell i' (by rw [hob]; exact hi') 0 hj'
        rw [hob] at e1
        simp only [Body.cell?, if_true] at e1 ⊢
        rw [getElem?_over _ _ _ _ hfit]
        by_cases hii : off ≤ i' ∧ i' < off + xs.length
        · have hlt : i' - off < xs.length := by omega
          rw [if_pos hii, if_pos ⟨by omega, by simp; omega, by omega⟩]
          exact ⟨.val (bv xs[i' - off]), bv xs[i' - off], by simp [List.getElem?_eq_getElem hlt], by simp [hlt], .val _⟩
        · rw [if_neg hii, if_neg (by simp; omega)]
          exact ⟨a', v', e1, e2, e3⟩)
    exact .value E _ _ hrun ⟨hset.1, .val _, hset.2, Nat.le_refl _⟩

theorem ok_copyR {x y : Operand} {t t' e : TypeId} {id i j n c0 : Nat} {ob : AObj} {l : List (List AV)} {el : List AV} {xs : List UInt8} {p : Prop} (s : Sat E nx H w) (r : RepT E w tm a) (h : o.op = .call { callee := .builtin .copy, args := #[x, y], argTypes := #[t, t'] })
    (ht : elemT P t = some e) (hb : byteTB P e = true) (hx : avOf tm x = .csl id i j n c0) (hid : H id = some ob) (hob : ob.body = .rows l) (hi : l[i]? = some el) (he : el.length = ob.sz) (hj : j + n ≤ ob.sz)
    (hy : bytesOf H (avOf tm y) = some (xs, p)) (hp : p) (h0 : 0 < n) (hn : n ≤ xs.length) :
    OpOk P o E H a w rid nx ⟨.val (goInt n), [(id, some { ob with body := .rows (l.set i (splice el j ((List.range n).map fun k => .val (bv (xs.getD k 0))))) })], nx⟩ := by
  obtain ⟨A1, m, c1, hv, hrd⟩ := rd_of s hy hp (r.eval y)
  have hm := hrd.len
  have rx := r.eval x
  rw [hx] at rx
  generalize hu : a.eval x = u at rx
  cases rx with
  | csl hE hn' hmx =>
    rename_i b c sz
    have ro := s.at_ hid hE
    have hsz : sz = ob.sz := ro.1
    have hil : i < l.length := (List.getElem?_eq_some_iff.1 hi).1
    have hic : i < c := Nat.lt_of_lt_of_le (by rw [hob]; exact hil) ro.2.2.1
    have hrun := copy_run (b := b) (k0 := i * sz + j) (k := n) h (byteTB_ok hb ht) hu hv hrd (by rw [← hm]; exact (Nat.min_eq_right hn).symm) h0 (fun k hk => ro.writable (by rw [Nat.add_assoc]; exact flat_lt (by omega) hic))
    obtain ⟨_, _, hlc, _, hex, cur, fr, hg, hcs, hfr, hcell⟩ := ro
    obtain ⟨cur', g1, g2, g3, g4, g5, gm⟩ := setCells_spec b ob.t fr ((xs.take n).map bv) (i * sz + j) cur w hg
    have hcn : ((List.range n).map fun k => AV.val (bv (xs.getD k 0))).length = n := by simp
    generalize hcsd : ((List.range n).map fun k => AV.val (bv (xs.getD k 0))) = cs at hcn ⊢
    have hvl : ((xs.take n).map bv).length = n := by simp; omega
    have hset := sat_set (w' := w.setCells b (i * sz + j) ((xs.take n).map bv)) (N := fun id => id = rid ∨ nx ≤ id) (o' := { ob with body := .rows (l.set i (splice el j cs)) }) s hid hE g1 g4 g5 gm hsz (by rw [g2]; exact hcs) (by rw [hob] at hlc; simpa [Body.len] using hlc)
      (fun hh => by have := hex hh; rw [hob] at this; simpa [Body.len] using this) hfr (by
        intro i' hi' j' hj'
        simp only [Body.len, List.length_set] at hi'
        have hi'' : i' < c := Nat.lt_of_lt_of_le (by rw [hob]; exact hi') hlc
        have hcur : i' * sz + j' < cur.size := by rw [hcs]; exact flat_lt hj' hi''
        rw [g3]
        obtain ⟨a', v', e1, e2, e3⟩ := hcell i' (by rw [hob]; exact hi') j' hj'
        rw [hob] at e1
        simp only [Body.cell?] at e1
        by_cases hii : i' = i ∧ j ≤ j' ∧ j' < j + n
        · obtain ⟨rfl, hj1, hj2⟩ := hii
          have hlt : j' - j < n := by omega
          rw [if_pos ⟨by omega, by rw [hvl]; omega, hcur⟩]
          refine ⟨.val (bv (xs.getD (j' - j) 0)), bv (xs.getD (j' - j) 0), ?_, ?_, .val _⟩
          · simp only [Body.cell?]
            rw [List.getElem?_set_self hil, Option.bind_some, splice_get el j cs (by omega), if_pos ⟨hj1, by omega⟩, ← hcsd]
            simp [hlt]
          · rw [show i' * sz + j' - (i' * sz + j) = j' - j by omega, List.getElem?_map, List.getElem?_take, if_pos hlt, List.getD_eq_getElem?_getD, List.getElem?_eq_getElem (by omega : j' - j < xs.length)]
            rfl
        · rw [if_neg (fun hc => hii (by
            obtain ⟨c1, c2, _⟩ := hc
            rw [hvl] at c2
            have := flat_inj (sz := sz) (i := i') (j := j') (i' := i) (j' := j + (i' * sz + j' - (i * sz + j))) hj' (by omega) (by omega)
            omega))]
          refine ⟨a', v', ?_, e2, e3⟩
          simp only [Body.cell?]
          by_cases hii2 : i' = i
          · subst hii2
            rw [List.getElem?_set_self hil, Option.bind_some, splice_get el j cs (by omega), if_neg (fun hc => hii ⟨rfl, by omega, by omega⟩)]
            rw [hi, Option.bind_some] at e1
            exact e1
          · rw [List.getElem?_set_ne (fun e => hii2 e.symm)]
            exact e1)
    exact .value E _ _ hrun ⟨hset.1, .val _, hset.2, Nat.le_refl _⟩
end
end Go.Proofs.Ytmilcpejchjleaa
