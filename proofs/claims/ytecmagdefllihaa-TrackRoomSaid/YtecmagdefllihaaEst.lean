/- An engine for walks: texts: bytes out of a text, a text's bytes appended. -/
import Derived.Test.YtecmagdefllihaaEw
import Derived.Lib.AppendStr
import Derived.Laws.IdiomStrings
namespace Go.Proofs.Ytecmagdefllihaa
open Go.RowKit

def isStrT (P : Program) (u : TypeId) : Bool := match P.underlying u with | some .string => true | _ => false
theorem isStrT_ok {P : Program} {u : TypeId} (h : isStrT P u = true) : P.underlying u = some .string := by
  unfold isStrT at h
  split at h
  · assumption
  · cases h

theorem strCells_bv (s : ByteArray) : Lib.strCells s = s.data.toList.map bv := rfl

theorem size_toList (s : ByteArray) : s.data.toList.length = s.size := by rw [Array.length_toList]; rfl

/-- append of a text's bytes -/
theorem run_appS {P : Program} (w : World) {t e u : TypeId} (T : ByteTy P t e) (hu : P.underlying u = some .string) (ty : TypeId) (base : Nat) (A : Option Addr) (n c : Nat) (xs : List UInt8) (hown : Own w base e A n c xs)
    (s : ByteArray) (h63 : n + s.size ≤ 1000000000) (hbase : base ≤ w.heap.size) :
    ∃ A' c' w', (Builtin.append_ #[t, u] ty #[.slice A n c, .string s]).run P w = .ok (.slice A' (n + s.size) c') w' ∧ Own w' base e A' (n + s.size) c' (xs ++ s.data.toList) ∧
      w.grownBy w' (Value.slice A n c).ownBlock ∧ ((Value.slice A' (n + s.size) c').ownBlock = (Value.slice A n c).ownBlock ∨ (Value.slice A' (n + s.size) c').ownBlock = some w.heap.size) := by
  obtain ⟨i, hi', hz0, hz1, hz2⟩ := info_parts T.hi
  have hll : (xs ++ s.data.toList).length = n + s.size := by rw [List.length_append, hown.1, size_toList]
  obtain ⟨v', w', h1, h2, h3, h4⟩ := Lib.run_append_own_string (P := P) w base t u ty e i T.ht hu hi' hz0 hz1 hz2 (.slice A n c) n _ hown.2 s (by simp only [maxLen]; omega) (by omega) hbase
  have hob : v'.ownBlock = (Value.slice A n c).ownBlock ∨ v'.ownBlock = some w.heap.size := by
    rcases hown.2.2 with ⟨hv, hn⟩ | ⟨g, cap, cur, hv, hbg, hg, hnc, hcm, hcs, htake⟩
    · by_cases hs0 : s.size = 0
      · have := h4.2 ⟨hv, hs0⟩
        rw [this, hv]
        exact .inl rfl
      · have hr := run_append_nil_string (P := P) w t u ty e i (.int .u8 0) T.ht hu hi' hz0 s (by omega) (by omega) (by rw [hz2]; omega)
        rw [hv, hr] at h1
        injection h1 with h1 _
        rw [← h1]
        exact .inr rfl
    · injection hv with v1 v2 v3
      subst v1 v3
      by_cases hroom : n + s.size ≤ c
      · have hr := Lib.run_append_room_string (P := P) w t u ty e i T.ht hu hi' hz1 g n c cur hg s hroom (by omega)
        rw [hr] at h1
        injection h1 with h1 _
        rw [← h1]
        exact .inl rfl
      · have holds : ∀ j v, (xs.map bv)[j]? = some v → w.cell? ((⟨g, 0, none⟩ : Addr).add j) = some v := hown.2.cells (g := g) rfl
        have hr := Lib.run_append_grow_string (P := P) w t u ty e i (.int .u8 0) T.ht hu hi' hz0 ⟨g, 0, none⟩ n c (xs.map bv) (by rw [hz1]; simpa using hown.1) holds s (by omega) (by omega) (by rw [hz2]; exact growslice_fits (by omega) (by omega))
        rw [hr] at h1
        injection h1 with h1 _
        rw [← h1]
        exact .inr rfl
  rw [strCells_bv, ← List.map_append] at h2
  obtain ⟨A', c', rfl⟩ := own_form h2
  exact ⟨A', c', w', h1, ⟨hll, h2⟩, h3, hob⟩

section
variable {P : Program} {E : Env} {H : Heap} {w : World} {a : Act} {o : Oper} {nx rid : Nat} {tm : Nat → AV}

theorem appendS_text {H0 : Heap} {A : Option Addr} {n c : Nat} {ys : List UInt8} {t u ty e : TypeId} {st : ByteArray} {nx' : Nat} (s0 : Sat E nx H0 w) (s : Sat E nx H w) (h0 : ∀ id o, H id = some o → H0 id = some o)
    (hr : E.f rid = none) (hnx : nx ≤ nx') (hrid : rid < nx') (T : ByteTy P t e) (hu : P.underlying u = some .string) (hown : Own w 0 e A n c ys) (hrow : ∀ b, (Value.slice A n c).ownBlock = some b → Hb E H0 b ∧ ¬ Hb E H b)
    (h63 : ys.length + st.size ≤ 1000000000) :
    ∃ E' w' v, (Builtin.append_ #[t, u] ty #[.slice A n c, .string st]).run P w = .ok v w' ∧ Sat E' nx' (upd H rid (some (objApp e (ys ++ st.data.toList)))) w' ∧
      Rep E' w' (.sl rid 0 (ys.length + st.size) none) v ∧ Ext E H0 w (fun id => id = rid) E' (upd H rid (some (objApp e (ys ++ st.data.toList)))) w' := by
  have hnl := hown.1
  subst hnl
  have hll : (ys ++ st.data.toList).length = ys.length + st.size := by rw [List.length_append, size_toList]
  obtain ⟨A', c', w', hrun, hown', hgr, hat⟩ := run_appS (P := P) w T hu ty 0 A ys.length c ys hown st h63 (Nat.zero_le _)
  rcases hown'.2.2 with ⟨hv, hn0⟩ | ⟨g, cap, cur, hv, _, hgg, hnc, hm, hs, ht⟩
  · injection hv with v1 v2 v3
    subst v1 v3
    have := sat_put (p := .nil) (ob := objApp e (ys ++ st.data.toList)) s0 s h0 hr hnx hrid hrow hgr ⟨by simp only [objApp, Body.len]; rw [hll]; exact hn0, rfl⟩
    refine ⟨_, w', _, hrun, this.1, ?_, this.2⟩
    rw [v2]
    exact .slnil (Env.put_same _ _ _) rfl
  · injection hv with v1 v2 v3
    subst v1 v3
    have hrow' : (Value.slice A ys.length c).ownBlock = some g ∨ w.heap.size ≤ g := by
      rcases hat with hat | hat
      · left; rw [← hat]; rfl
      · right; simp [Value.ownBlock] at hat; omega
    have := sat_put (p := .at_ g c' 1) (ob := objApp e (ys ++ st.data.toList)) s0 s h0 hr hnx hrid hrow hgr ⟨rfl, hrow', by simp only [objApp, Body.len]; rw [hll]; omega, hm, rfl, cur, hgg, by omega, fun i hi j hj => by
      obtain rfl : j = 0 := by omega
      simp only [objApp, Body.len] at hi
      refine ⟨.val (bv (ys ++ st.data.toList)[i]), bv (ys ++ st.data.toList)[i], by simp only [objApp, Body.cell?, if_true, List.getElem?_eq_getElem hi, Option.map_some], ?_, .val _⟩
      have h1 : (cur.toList.take ((ys.length + st.size) * 1))[i]? = some (bv (ys ++ st.data.toList)[i]) := by
        rw [ht, List.getElem?_map, List.getElem?_eq_getElem hi]
        rfl
      rw [List.getElem?_take] at h1
      split at h1
      · simpa using h1
      · cases h1⟩
    refine ⟨_, w', _, hrun, this.1, ?_, this.2⟩
    exact .sl (cap := c') (b := g) (c := c') (sz := 1) (Env.put_same _ _ _) rfl (Nat.le_refl _) hnc (.inr (by simp))

theorem append_run2 {x y : Operand} {t t' : TypeId} {u v : Value} (h : o.op = .call { callee := .builtin .append, args := #[x, y], argTypes := #[t, t'] }) {w' : World} {r : Value} (hx : a.eval x = u) (hy : a.eval y = v)
    (hr : (Builtin.append_ #[t, t'] o.type #[u, v]).run P w = .ok r w') : (execOp a.eval o).run P w = .ok (.value r) w' := by
  simp [execOp, h, resolve, invoke, builtin, hx, hy, hr]

theorem ok_appendStrSl {x y : Operand} {t t' e : TypeId} {id n : Nat} {ob : AObj} {ys : List UInt8} {st : ByteArray} {nx' : Nat} (s : Sat E nx H w) (r : RepT E w tm a) (hr : E.f rid = none) (hnx : nx ≤ nx') (hrid : rid < nx') (h : o.op = .call { callee := .builtin .append, args := #[x, y], argTypes := #[t, t'] })
    (ht : elemT P t = some e) (hb : byteTB P e = true) (hstr : P.underlying t' = some .string) (hx : avOf tm x = .sl id 0 n none) (hid : H id = some ob) (hob : ob.body = .bytes ys) (hsz : ob.sz = 1) (hfz : ob.fz = false) (hot : ob.t = e) (hn : ys.length = n)
    (hy : avOf tm y = .val (.string st)) (h63 : ys.length + st.size ≤ 1000000000) :
    OpOk P o E H a w rid nx ⟨.sl rid 0 (ys.length + st.size) none, [(id, none), (rid, some (objApp e (ys ++ st.data.toList)))], nx'⟩ := by
  have hv := eval_val r hy
  have rx := r.eval x
  rw [hx] at rx
  generalize hu : a.eval x = u at rx
  have s1 : Sat E nx (upd H id none) w := s.sub fun k q hk => by
    by_cases e : k = id
    · subst e; rw [upd_same] at hk; cases hk
    · rwa [upd_other _ _ e] at hk
  have h0 : ∀ k q, upd H id none k = some q → H k = some q := fun k q hk => by
    by_cases e : k = id
    · subst e; rw [upd_same] at hk; cases hk
    · rwa [upd_other _ _ e] at hk
  have fin : ∀ A c, u = .slice A n c → Own w 0 e A n c ys → (∀ b, (Value.slice A n c).ownBlock = some b → Hb E H b ∧ ¬ Hb E (upd H id none) b) →
      OpOk P o E H a w rid nx ⟨.sl rid 0 (ys.length + st.size) none, [(id, none), (rid, some (objApp e (ys ++ st.data.toList)))], nx'⟩ := by
    intro A c hA hown hrow
    subst hA
    obtain ⟨E', w', u', h1, h2, h3, h4⟩ := appendS_text (ty := o.type) s s1 h0 hr hnx hrid (byteTB_ok hb ht) hstr hown hrow h63
    exact .value E' w' u' (append_run2 h hu hv h1) ⟨h2, h3, h4.weaken fun id e => .inl e, hnx⟩
  cases rx with
  | slnil hE hl =>
    have : ys = [] := List.eq_nil_of_length_eq_zero hn
    subst this
    exact fin none 0 rfl (Own.none_ w 0 e) (fun b hb => by simp [Value.ownBlock] at hb)
  | sl hE hc hl hn' hA =>
    rename_i b c sz cap A
    have ro := s.at_ hid hE
    have h1 : sz = ob.sz := ro.1
    obtain rfl : sz = 1 := by omega
    simp only [Option.getD_none, Nat.add_zero] at hc
    subst hc
    obtain rfl := hA.resolve_left (by omega)
    simp only [Nat.zero_mul] at fin ⊢
    obtain ⟨_, _, hlen, hmx, _, cur, fr, hg, hs, hfr, hcell⟩ := ro
    have hfr0 : fr = (0, 0) := hfr.resolve_right fun h => by rw [hfz] at h; cases h.1
    subst hfr0
    rw [hot] at hg
    refine fin (some ⟨b, 0, none⟩) cap (by simp) ⟨hn, by simp [hn], .inr ⟨b, cap, cur, rfl, Nat.zero_le _, hg, hn', hmx, by omega, ?_⟩⟩ (fun b' hb' => ?_)
    · apply List.ext_getElem?
      intro k
      rw [List.getElem?_take]
      by_cases hk : k < n
      · have hk' : k < ob.body.len := by rw [hob]; simp only [Body.len]; omega
        obtain ⟨a', v, e1, e2, e3⟩ := hcell k hk' 0 (by omega)
        rw [hob] at e1
        have hky : k < ys.length := by omega
        simp only [Body.cell?, if_true, List.getElem?_eq_getElem hky, Option.map_some, Option.some.injEq] at e1
        subst e1
        have := e3.val_inv
        subst this
        simp only [Nat.mul_one, Nat.add_zero] at e2
        simp [hk, hky, e2]
      · rw [if_neg (by omega), List.getElem?_eq_none (by simp; omega)]
    · simp only [Value.ownBlock, Option.some.injEq] at hb'
      subst hb'
      refine ⟨⟨id, ob, cap, 1, hid, hE⟩, ?_⟩
      rintro ⟨k, q, c2, z2, hk, hf⟩
      have hne : k ≠ id := fun e => by subst e; rw [upd_same] at hk; cases hk
      rw [upd_other _ _ hne] at hk
      exact hne (s.inj _ _ _ _ _ _ _ _ _ hk hid hf hE)

theorem ok_appendStrNil {x y : Operand} {t t' e : TypeId} {st : ByteArray} {nx' : Nat} (s : Sat E nx H w) (r : RepT E w tm a) (hr : E.f rid = none) (hnx : nx ≤ nx') (hrid : rid < nx') (h : o.op = .call { callee := .builtin .append, args := #[x, y], argTypes := #[t, t'] })
    (ht : elemT P t = some e) (hb : byteTB P e = true) (hstr : P.underlying t' = some .string) (hx : avOf tm x = .val (.slice none 0 0)) (hy : avOf tm y = .val (.string st)) (h63 : st.size ≤ 1000000000) :
    OpOk P o E H a w rid nx ⟨.sl rid 0 st.size none, [(rid, some (objApp e st.data.toList))], nx'⟩ := by
  obtain ⟨E', w', u', h1, h2, h3, h4⟩ := appendS_text (ty := o.type) s s (fun _ _ h => h) hr hnx hrid (byteTB_ok hb ht) hstr (Own.none_ w 0 e) (fun b hb => by simp [Value.ownBlock] at hb) (by simpa using h63)
  simp only [List.nil_append, List.length_nil, Nat.zero_add] at h2 h3 h4
  exact .value E' w' u' (append_run2 h (eval_val r hx) (eval_val r hy) h1) ⟨h2, h3, h4.weaken fun id e => .inl e, hnx⟩

/-- a text's byte -/
theorem ok_indexStr {x ix : Operand} {t : TypeId} {st : ByteArray} {k : IntKind} {z : Int} (s : Sat E nx H w) (r : RepT E w tm a) (h : o.op = .index t x ix) (ht : P.underlying t = some .string) (hx : avOf tm x = .val (.string st)) (hi : avOf tm ix = .val (.int k z)) (hz : 0 ≤ z ∧ z.toNat < st.size) :
    OpOk P o E H a w rid nx ⟨.val (.int .u8 ((st.data.toList.getD z.toNat 0).toNat : Int)), [], nx⟩ := by
  refine ok_val s ?_ (.val _)
  have hb : st[z.toNat]? = some (st.data.toList.getD z.toNat 0) := by
    have hz2 : z.toNat < st.data.size := hz.2
    have e1 : st[z.toNat]'hz.2 = st.data[z.toNat]'hz2 := rfl
    rw [getElem?_pos st z.toNat hz.2, e1, List.getD_eq_getElem?_getD, Array.getElem?_toList, Array.getElem?_eq_getElem hz2, Option.getD_some]
  simp [execOp, h, eval_val r hx, eval_val r hi, Instr.index, asIntOf, run_underlying ht, hz.1, hb]

/-- bytes out of a text -/
theorem ok_bytesOfStr {x : Operand} {t dst e : TypeId} {st : ByteArray} {nx' : Nat} (s : Sat E nx H w) (r : RepT E w tm a) (hr : E.f rid = none) (hnx : nx ≤ nx') (hrid : rid < nx') (h : o.op = .convert t dst x) (ht : P.underlying t = some .string) (hd : elemT P dst = some e) (hb : byteTB P e = true)
    (hx : avOf tm x = .val (.string st)) (h63 : st.size ≤ 1000000000) :
    OpOk P o E H a w rid nx ⟨.sl rid 0 st.size none, [(rid, some { objApp e st.data.toList with fz := true })], nx'⟩ := by
  have T := byteTB_ok hb hd
  have hrun := run_bytes_of_string (P := P) w t dst e st ht T.ht T.hb
  have hge := grownCap_ge w st.size 0 e
  have hcm : grownCap w st.size 0 e ≤ maxLen := grownCap_le_maxLen w st.size 0 e (by simp only [maxLen]; omega)
  generalize grownCap w st.size 0 e = c at *
  have hcs : (bytesRow st c).size = c := by
    unfold bytesRow
    rw [Array.size_append, Array.size_map, Array.size_replicate]
    have : st.data.size = st.size := rfl
    omega
  have hnew := sat_new (w' := w.drew.alloc (.cells (bytesRow st c) e ((bytesRow st c).size, (bytesRow st c).size + 1))) (o := { objApp e st.data.toList with fz := true }) (c := c) s hr hnx hrid rfl ⟨rfl, rfl, rfl⟩ (by simp only [objApp]; omega)
    (by simp only [objApp, Body.len]; rw [size_toList]; exact hge) hcm (fun h => by simp [objApp] at h) (.inr ⟨rfl, by simp only [objApp, hcs]; omega⟩) (fun i hi j hj => by
      simp only [objApp] at hj
      obtain rfl : j = 0 := by omega
      simp only [objApp, Body.len] at hi
      refine ⟨.val (bv st.data.toList[i]), bv st.data.toList[i], by simp only [objApp, Body.cell?, if_true, List.getElem?_eq_getElem hi, Option.map_some], ?_, .val _⟩
      have hi' : i < st.data.size := by simpa using hi
      have hi2 : i < st.size := hi'
      simp [objApp, bytesRow, bv, Array.getElem?_append, hi2])
  refine .value _ _ _ ?_ ⟨hnew.1, .sl (cap := c) (b := w.heap.size) (c := c) (sz := 1) (Env.put_same _ _ _) rfl (Nat.le_refl _) hge (.inr (by rw [Nat.zero_mul])), hnew.2.weaken fun id e => .inl e, hnx⟩
  simp [execOp, h, eval_val r hx, hrun]
end
end Go.Proofs.Ytecmagdefllihaa
