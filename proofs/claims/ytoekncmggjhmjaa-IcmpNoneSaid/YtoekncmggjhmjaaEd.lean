/- An engine for walks, fourth part: operations on memory: new variables, loads, stores, addresses, slices. -/
import Derived.Test.YtoekncmggjhmjaaEc
namespace Go.Proofs.Ytoekncmggjhmjaa
open Go.RowKit

theorem flat_inj {sz i j i' j' : Nat} (h : j < sz) (h' : j' < sz) (e : i * sz + j = i' * sz + j') : i = i' ∧ j = j' := by
  rcases Nat.lt_trichotomy i i' with hl | hl | hl
  · have : (i + 1) * sz ≤ i' * sz := Nat.mul_le_mul_right _ hl
    rw [Nat.add_mul] at this
    omega
  · subst hl; omega
  · have : (i' + 1) * sz ≤ i * sz := Nat.mul_le_mul_right _ hl
    rw [Nat.add_mul] at this
    omega

theorem flat_lt {sz i j c : Nat} (h : j < sz) (hi : i < c) : i * sz + j < c * sz := by
  have : (i + 1) * sz ≤ c * sz := Nat.mul_le_mul_right _ hi
  rw [Nat.add_mul] at this
  omega

/-- cells written one behind the other -/
theorem setCells_spec (b : Nat) (t : TypeId) (fr : Nat × Nat) : ∀ (vs : List Value) (o : Nat) (cur : Array Value) (w : World), w.heap[b]? = some (.cells cur t fr) →
    ∃ cur', (w.setCells b o vs).heap[b]? = some (.cells cur' t fr) ∧ cur'.size = cur.size ∧ (∀ k, cur'[k]? = if o ≤ k ∧ k < o + vs.length ∧ k < cur.size then vs[k - o]? else cur[k]?) ∧
      (∀ k, k ≠ b → (w.setCells b o vs).heap[k]? = w.heap[k]?) ∧ (w.setCells b o vs).heap.size = w.heap.size ∧ Mem w (w.setCells b o vs)
  | [], o, cur, w, h => ⟨cur, h, rfl, fun k => by rw [if_neg (by simp; omega)], fun _ _ => rfl, rfl, rfl, rfl, rfl⟩
  | v :: r, o, cur, w, h => by
    have h1 : (w.setCell ⟨b, o, none⟩ v).heap[b]? = some (.cells (cur.setIfInBounds o v) t fr) := by
      simp [World.setCell, Array.getElem?_modify, h]
    obtain ⟨cur', e1, e2, e3, e4, e5, m⟩ := setCells_spec b t fr r (o + 1) _ _ h1
    refine ⟨cur', e1, by rw [e2]; simp, fun k => ?_, fun k hk => ?_, by rw [World.setCells, e5]; simp [World.setCell], m.os, m.tape, m.output⟩
    · rw [e3, Array.size_setIfInBounds]
      by_cases hk : k = o
      · subst hk
        rw [if_neg (by omega)]
        by_cases hs : k < cur.size
        · rw [if_pos ⟨by omega, by simp, hs⟩]
          simp [hs]
        · rw [if_neg (by omega), Array.getElem?_eq_none (by simp; omega), Array.getElem?_eq_none (by omega)]
      · by_cases hc : o + 1 ≤ k ∧ k < o + 1 + r.length ∧ k < cur.size
        · rw [if_pos hc, if_pos ⟨by omega, by simp; omega, hc.2.2⟩]
          rw [show k - o = (k - (o + 1)) + 1 by omega, List.getElem?_cons_succ]
        · rw [if_neg hc, if_neg (by simp; omega), Array.getElem?_setIfInBounds_ne (by omega)]
    · rw [World.setCells, e4 k hk]
      exact Below.heap_setCell _ _ _ _ hk

section
variable {P : Program} {E : Env} {H : Heap} {w : World} {a : Act} {o : Oper} {nx rid : Nat} {tm : Nat → AV}

theorem ORep.read {ob : AObj} {b c sz : Nat} (r : ORep E w ob (.at_ b c sz)) {i j : Nat} (hi : i < ob.body.len) (hj : j < sz) :
    ∃ a v, ob.body.cell? i j = some a ∧ w.cell? ⟨b, i * sz + j, none⟩ = some v ∧ Rep E w a v := by
  obtain ⟨_, _, _, _, _, cur, fr, hg, hs, hf, hc⟩ := r
  obtain ⟨a, v, h1, h2, h3⟩ := hc i hi j hj
  exact ⟨a, v, h1, by simp [World.cell?, hg, h2], h3⟩

theorem ORep.writable {ob : AObj} {b c sz : Nat} (r : ORep E w ob (.at_ b c sz)) {k : Nat} (hk : k < c * sz) : (w.cell? ⟨b, k, none⟩).isSome = true ∧ w.frozen? ⟨b, k, none⟩ = false := by
  obtain ⟨_, _, _, _, _, cur, fr, hg, hs, hf, hc⟩ := r
  refine ⟨by simp [World.cell?, hg, hs, hk], ?_⟩
  unfold World.frozen?
  rw [hg]
  rcases hf with rfl | ⟨_, hf⟩
  · simp
  · simp; omega

theorem Sat.at_ (s : Sat E nx H w) {id : Nat} {ob : AObj} (h : H id = some ob) {b c sz : Nat} (hf : E.f id = some (.at_ b c sz)) : ORep E w ob (.at_ b c sz) := by
  obtain ⟨p, hp, r⟩ := s.rows _ _ h
  rw [hf] at hp; cases hp
  exact r

theorem eval_val {x : Operand} {v : Value} (r : RepT E w tm a) (h : avOf tm x = .val v) : a.eval x = v := by
  have := r.eval x
  rw [h] at this
  exact this.val_inv

theorem eval_ptr {x : Operand} {id i j : Nat} (r : RepT E w tm a) (h : avOf tm x = .ptr id i j) : ∃ b c sz, E.f id = some (.at_ b c sz) ∧ a.eval x = .pointer (some ⟨b, i * sz + j, none⟩) := by
  have := r.eval x
  rw [h] at this
  generalize a.eval x = u at this
  cases this with
  | ptr h => exact ⟨_, _, _, h, rfl⟩

theorem eval_iptr {x : Operand} {l : List AV} (r : RepT E w tm a) (h : avOf tm x = .iptr l) : ∃ g o, a.eval x = .pointer (some ⟨g, o, none⟩) ∧ E.I g ∧ ∀ (k : Nat) b, l[k]? = some b → ∃ v, w.cell? ⟨g, o + k, none⟩ = some v ∧ Rep E w b v := by
  have := r.eval x
  rw [h] at this
  generalize a.eval x = u at this
  cases this with
  | iptr vs hI hn hc hr =>
    refine ⟨_, _, rfl, hI, fun k b hb => ?_⟩
    have hk : k < vs.length := by rw [hn]; exact (List.getElem?_eq_some_iff.1 hb).1
    have hv : vs[k]? = some vs[k] := List.getElem?_eq_getElem hk
    exact ⟨_, hc _ _ hv, hr _ _ _ hb hv⟩

/-! ### a new variable -/
def zeroT (P : Program) (t : TypeId) : Option (List Value) := ((P.info? t).bind (·.zero)).map fun v => v.cells.toList

theorem zeroT_run {t : TypeId} {l : List Value} (h : zeroT P t = some l) (w : World) : ∃ v, (zeroValue t).run P w = .ok v w ∧ v.cells.toList = l := by
  unfold zeroT at h
  obtain ⟨v, hv, rfl⟩ := Option.map_eq_some_iff.1 h
  obtain ⟨i, hi, hz⟩ := Option.bind_eq_some_iff.1 hv
  exact ⟨v, by simp [zeroValue, run_info hi, hz], rfl⟩

/-- the cells of a value that is put into memory -/
def cellsOf : AV → Option (List AV)
  | .agg l => some l
  | .val v => some (v.cells.toList.map .val)
  | .any | .tup _ | .opt _ _ => none
  | x => some [x]

theorem cellsOf_rep {x : AV} {u : Value} {l : List AV} (h : cellsOf x = some l) (r : Rep E w x u) :
    u.cells.size = l.length ∧ ∀ (k : Nat) a v, l[k]? = some a → u.cells[k]? = some v → Rep E w a v := by
  have one : ∀ {y : AV} {u : Value}, Rep E w y u → (∀ cs, u ≠ .agg cs) → u.cells.size = [y].length ∧ ∀ (k : Nat) a v, [y][k]? = some a → u.cells[k]? = some v → Rep E w a v := by
    intro y u r hu
    have : u.cells = #[u] := by cases u <;> first | rfl | exact absurd rfl (hu _)
    rw [this]
    refine ⟨rfl, fun k a v h1 h2 => ?_⟩
    cases k with
    | zero => simp at h1 h2; subst h1 h2; exact r
    | succ k => simp at h1
  cases x with
  | agg l' =>
    simp only [cellsOf, Option.some.injEq] at h
    subst h
    cases r with
    | agg hn hr => exact ⟨hn, hr⟩
  | val v =>
    have := r.val_inv
    subst this
    simp only [cellsOf, Option.some.injEq] at h
    subst h
    refine ⟨by simp, fun k a v h1 h2 => ?_⟩
    simp only [List.getElem?_map, Option.map_eq_some_iff, Array.getElem?_toList] at h1
    obtain ⟨y, hy, rfl⟩ := h1
    rw [hy] at h2
    injection h2 with h2
    subst h2
    exact .val _
  | any => simp [cellsOf] at h
  | tup => simp [cellsOf] at h
  | opt => simp [cellsOf] at h
  | _ =>
    simp only [cellsOf, Option.some.injEq] at h
    subst h
    exact one r (fun cs e => by subst e; cases r)

/-- an object of one element -/
def objOne (t : TypeId) (l : List AV) : AObj := ⟨t, l.length, true, false, .rows [l]⟩

theorem new_one (s : Sat E nx H w) {nx' : Nat} (hr : E.f rid = none) (hnx : nx ≤ nx') (hrid : rid < nx') {t : TypeId} {cs : Array Value} {l : List AV} (hn : cs.size = l.length)
    (hrep : ∀ (k : Nat) a v, l[k]? = some a → cs[k]? = some v → Rep E w a v) (v : AV) (hv : v = .ptr rid 0 0) :
    Post E H w rid nx ⟨v, [(rid, some (objOne t l))], nx'⟩ (E.put rid (.at_ w.heap.size 1 l.length)) (w.alloc (.cells cs t)) (.pointer (some ⟨w.heap.size, 0, none⟩)) := by
  subst hv
  have h := sat_new (w' := w.alloc (.cells cs t)) (o := objOne t l) (c := 1) (fr := (0, 0)) (cur := cs) s hr hnx hrid rfl ⟨rfl, rfl, rfl⟩ (by simp [objOne, hn]) (by simp [objOne, Body.len]) (by simp [maxLen]) (by simp [objOne, Body.len]) (.inl rfl)
    (by
      intro i hi j hj
      simp only [objOne, Body.len, List.length_singleton] at hi hj
      obtain rfl : i = 0 := by omega
      have h1 : l[j]? = some l[j] := List.getElem?_eq_getElem hj
      have h2 : cs[j]? = some (cs[j]'(by omega)) := by simp [hn, hj]
      exact ⟨l[j], _, by simp [objOne, Body.cell?, h1], by simp, hrep _ _ _ h1 h2⟩)
  refine ⟨h.1, ?_, h.2.weaken fun id e => .inl e, hnx⟩
  have := Rep.ptr (E := E.put rid (.at_ w.heap.size 1 l.length)) (w := w.alloc (.cells cs t)) (i := 0) (j := 0) (Env.put_same E rid (.at_ w.heap.size 1 l.length))
  simp at this ⊢
  exact this

theorem ok_box {x : Operand} {t : TypeId} {l : List AV} {nx' : Nat} (s : Sat E nx H w) (r : RepT E w tm a) (hr : E.f rid = none) (hnx : nx ≤ nx') (hrid : rid < nx') (h : o.op = .box t x) (hx : cellsOf (avOf tm x) = some l) :
    OpOk P o E H a w rid nx ⟨.ptr rid 0 0, [(rid, some (objOne t l))], nx'⟩ := by
  obtain ⟨hn, hrep⟩ := cellsOf_rep hx (r.eval x)
  refine .value _ _ _ ?_ (new_one (t := t) s hr hnx hrid hn hrep _ rfl)
  simp [execOp, h, Instr.box, newVar, newRow]

theorem ok_alloc {t : TypeId} {z : List Value} {nx' : Nat} (s : Sat E nx H w) (hr : E.f rid = none) (hnx : nx ≤ nx') (hrid : rid < nx') (h : o.op = .alloc t) (hz : zeroT P t = some z) :
    OpOk P o E H a w rid nx ⟨.ptr rid 0 0, [(rid, some (objOne t (z.map .val)))], nx'⟩ := by
  obtain ⟨v, h1, h2⟩ := zeroT_run hz w
  refine .value _ _ _ ?_ (new_one (t := t) (cs := v.cells) s hr hnx hrid (by rw [← h2]; simp) (fun k a u e1 e2 => ?_) _ rfl)
  · simp [execOp, h, Instr.alloc, h1, newVar, newRow]
  · rw [← h2] at e1
    simp only [List.getElem?_map, Option.map_eq_some_iff, Array.getElem?_toList] at e1
    obtain ⟨y, hy, rfl⟩ := e1
    rw [hy] at e2
    injection e2 with e2
    subst e2
    exact .val _

/-! ### loads -/
theorem add_spot (g o i : Nat) : (⟨g, o, none⟩ : Addr).add i = ⟨g, o + i, none⟩ := add_zero_spot g o i

theorem load_agg {t : TypeId} {n g o' : Nat} {l : List AV} (ha : aggT P t = some true) (hs : szT P t = some n) (hl : l.length = n)
    (h : ∀ (k : Nat) b, l[k]? = some b → ∃ v, w.cell? ⟨g, o' + k, none⟩ = some v ∧ Rep E w b v) : ∃ u, (loadVar t ⟨g, o', none⟩).run P w = .ok u w ∧ Rep E w (.agg l) u := by
  have hrun := run_loadCells (P := P) w ⟨g, o', none⟩ n (fun k => (w.cell? ⟨g, o' + k, none⟩).getD undef) (fun j hj => by
    obtain ⟨v, hv, _⟩ := h j l[j] (List.getElem?_eq_getElem (by omega))
    rw [add_spot, hv]; rfl)
  refine ⟨.agg ((List.range n).map fun k => (w.cell? ⟨g, o' + k, none⟩).getD undef).toArray, by simp [loadVar, aggT_run ha, szT_run hs, hrun], .agg (by simp [hl]) fun k b v h1 h2 => ?_⟩
  obtain ⟨u, hu, hr⟩ := h k b h1
  have hk : k < n := by rw [← hl]; exact (List.getElem?_eq_some_iff.1 h1).1
  simp [hk, hu] at h2
  subst h2
  exact hr

theorem load_one {t : TypeId} {g o' : Nat} {b : AV} {v : Value} (ha : aggT P t = some false) (h : w.cell? ⟨g, o', none⟩ = some v) (_ : Rep E w b v) : (loadVar t ⟨g, o', none⟩).run P w = .ok v w := by
  simp [loadVar, aggT_run ha, h]

/-- what is loaded out of a row of cells -/
def loadA (P : Program) (t : TypeId) (e : List AV) (j : Nat) : Option AV := partA P t e j

theorem load_part {t : TypeId} {g o' j : Nat} {e : List AV} {v : AV} (hp : partA P t e j = some v)
    (h : ∀ (k : Nat) b, e[k]? = some b → ∃ u, w.cell? ⟨g, o' + k, none⟩ = some u ∧ Rep E w b u) : ∃ u, (loadVar t ⟨g, o' + j, none⟩).run P w = .ok u w ∧ Rep E w v u := by
  unfold partA at hp
  split at hp
  · rename_i n h1 h2
    split at hp
    · injection hp with hp
      subst hp
      refine load_agg h1 h2 (by simp; omega) fun k b hb => ?_
      rw [List.getElem?_take] at hb
      split at hb
      · rw [List.getElem?_drop] at hb
        obtain ⟨u, hu, hr⟩ := h _ _ hb
        exact ⟨u, by rw [Nat.add_assoc]; exact hu, hr⟩
      · cases hb
    · cases hp
  · rename_i h1
    obtain ⟨u, hu, hr⟩ := h _ _ hp
    exact ⟨u, load_one h1 hu hr, hr⟩
  · cases hp

theorem ok_load {x : Operand} {t : TypeId} {id i j : Nat} {ob : AObj} {l : List (List AV)} {e : List AV} {v : AV} (s : Sat E nx H w) (r : RepT E w tm a) (h : o.op = .load t x) (hx : avOf tm x = .ptr id i j)
    (hid : H id = some ob) (hb : ob.body = .rows l) (hi : l[i]? = some e) (he : e.length ≤ ob.sz) (hp : partA P t e j = some v) : OpOk P o E H a w rid nx ⟨v, [], nx⟩ := by
  obtain ⟨b, c, sz, hf, hu⟩ := eval_ptr r hx
  have ro := s.at_ hid hf
  have hsz : sz = ob.sz := ro.1
  have hil : i < ob.body.len := by rw [hb]; exact (List.getElem?_eq_some_iff.1 hi).1
  obtain ⟨u, h1, h2⟩ := load_part (w := w) (E := E) (g := b) (o' := i * sz) hp (fun k y hy => by
    have hk : k < e.length := (List.getElem?_eq_some_iff.1 hy).1
    obtain ⟨a', v', e1, e2, e3⟩ := ro.read hil (j := k) (by omega)
    rw [hb] at e1
    simp only [Body.cell?, hi, Option.bind_some] at e1
    rw [hy] at e1
    injection e1 with e1
    subst e1
    exact ⟨v', e2, e3⟩)
  exact ok_val s (by simp [execOp, h, hu, Instr.loadAt, Instr.sureAddr, h1]) h2

theorem ok_loadB {x : Operand} {t : TypeId} {id i : Nat} {ob : AObj} {xs : List UInt8} {y : UInt8} (s : Sat E nx H w) (r : RepT E w tm a) (h : o.op = .load t x) (hx : avOf tm x = .ptr id i 0)
    (hid : H id = some ob) (hb : ob.body = .bytes xs) (h1 : ob.sz = 1) (hi : xs[i]? = some y) (ha : aggT P t = some false) : OpOk P o E H a w rid nx ⟨.val (bv y), [], nx⟩ := by
  obtain ⟨b, c, sz, hf, hu⟩ := eval_ptr r hx
  have ro := s.at_ hid hf
  have hsz : sz = ob.sz := ro.1
  obtain ⟨a', v', e1, e2, e3⟩ := ro.read (i := i) (j := 0) (by rw [hb]; exact (List.getElem?_eq_some_iff.1 hi).1) (by omega)
  rw [hb] at e1
  simp only [Body.cell?, hi, if_true, Option.map_some, Option.some.injEq] at e1
  subst e1
  have := e3.val_inv
  subst this
  have hl := load_one ha e2 e3
  simp only [Nat.add_zero] at hl
  exact ok_val s (by simp [execOp, h, hu, Instr.loadAt, Instr.sureAddr, hl]) e3

theorem ok_loadI {x : Operand} {t : TypeId} {e : List AV} {v : AV} (s : Sat E nx H w) (r : RepT E w tm a) (h : o.op = .load t x) (hx : avOf tm x = .iptr e) (hp : partA P t e 0 = some v) : OpOk P o E H a w rid nx ⟨v, [], nx⟩ := by
  obtain ⟨g, o', hu, hI, hc⟩ := eval_iptr r hx
  obtain ⟨u, h1, h2⟩ := load_part hp hc
  simp only [Nat.add_zero] at h1
  exact ok_val s (by simp [execOp, h, hu, Instr.loadAt, Instr.sureAddr, h1]) h2

/-! ### stores -/
def splice (e : List AV) (j : Nat) (l : List AV) : List AV := e.take j ++ l ++ e.drop (j + l.length)

theorem splice_get (e : List AV) (j : Nat) (l : List AV) (h : j + l.length ≤ e.length) (k : Nat) : (splice e j l)[k]? = if j ≤ k ∧ k < j + l.length then l[k - j]? else e[k]? := by
  unfold splice
  have hlen : (e.take j).length = j := by simp; omega
  by_cases h1 : k < j
  · rw [if_neg (by omega), List.append_assoc, List.getElem?_append_left (by omega), List.getElem?_take, if_pos h1]
  · by_cases h2 : k < j + l.length
    · rw [if_pos (by omega), List.append_assoc, List.getElem?_append_right (by omega), hlen, List.getElem?_append_left (by omega)]
    · rw [if_neg (by omega), List.getElem?_append_right (by simp; omega), List.getElem?_drop]
      congr 1
      simp
      omega

theorem splice_len (e : List AV) (j : Nat) (l : List AV) (h : j + l.length ≤ e.length) : (splice e j l).length = e.length := by
  simp [splice]; omega

theorem store_run {t : TypeId} {u : Value} {n b k0 : Nat} (hs : szT P t = some n) (hn : u.cells.size = n) (h1 : ∀ v ∈ u.cells.toList, v.oneCell' = true)
    (hc : ∀ j, j < n → (w.cell? ⟨b, k0 + j, none⟩).isSome = true ∧ w.frozen? ⟨b, k0 + j, none⟩ = false) :
    (storeVar t ⟨b, k0, none⟩ u).run P w = .ok () (w.setCells b k0 u.cells.toList) := by
  have := run_storeCells_cells (P := P) b k0 u.cells.toList 0 w (fun j hj => (hc j (by simpa [hn] using hj)).1) (fun j hj => (hc j (by simpa [hn] using hj)).2) h1
  simp [storeVar, szT_run hs, hn, this]

theorem ok_store {x y : Operand} {t : TypeId} {id i j n : Nat} {ob : AObj} {l : List (List AV)} {e cs : List AV} (s : Sat E nx H w) (r : RepT E w tm a) (h : o.op = .store t x y) (hx : avOf tm x = .ptr id i j)
    (hid : H id = some ob) (hb : ob.body = .rows l) (hi : l[i]? = some e) (he : e.length = ob.sz) (hy : cellsOf (avOf tm y) = some cs) (ho : cs.all AV.one = true) (hs : szT P t = some n) (hn : cs.length = n) (hj : j + n ≤ ob.sz) :
    OpOk P o E H a w rid nx ⟨.val undef, [(id, some { ob with body := .rows (l.set i (splice e j cs)) })], nx⟩ := by
  obtain ⟨b, c, sz, hf, hu⟩ := eval_ptr r hx
  have ro := s.at_ hid hf
  obtain ⟨hn', hrep⟩ := cellsOf_rep hy (r.eval y)
  have hsz : sz = ob.sz := ro.1
  have hil : i < l.length := (List.getElem?_eq_some_iff.1 hi).1
  have hic : i < c := Nat.lt_of_lt_of_le (by rw [hb]; exact hil) ro.2.2.1
  have h1 : ∀ v ∈ (a.eval y).cells.toList, v.oneCell' = true := by
    intro v hv
    obtain ⟨k, hk, rfl⟩ := List.getElem_of_mem hv
    have hk' : k < cs.length := by simpa [hn'] using hk
    have e1 : cs[k]? = some cs[k] := List.getElem?_eq_getElem hk'
    refine (hrep k _ _ e1 (by simp at hk; simp [hk])).one ?_
    rw [List.all_eq_true] at ho
    exact ho _ (List.mem_of_getElem? e1)
  have hrun := store_run (P := P) (w := w) (t := t) (u := a.eval y) (b := b) (k0 := i * sz + j) hs (by omega) h1 (fun k hk => ro.writable (by rw [Nat.add_assoc]; exact flat_lt (by omega) hic))
  obtain ⟨_, _, hlc, _, hex, cur, fr, hg, hcs, hfr, hcell⟩ := ro
  obtain ⟨cur', g1, g2, g3, g4, g5, gm⟩ := setCells_spec b ob.t fr (a.eval y).cells.toList (i * sz + j) cur w hg
  have hset := sat_set (w' := w.setCells b (i * sz + j) (a.eval y).cells.toList) (N := fun id => id = rid ∨ nx ≤ id) (o' := { ob with body := .rows (l.set i (splice e j cs)) }) s hid hf g1 g4 g5 gm hsz (by rw [g2]; exact hcs) (by rw [hb] at hlc; simpa [Body.len] using hlc)
    (fun hh => by have := hex hh; rw [hb] at this; simpa [Body.len] using this) hfr (by
      intro i' hi' j' hj'
      simp only [Body.len, List.length_set] at hi'
      have hi'' : i' < c := Nat.lt_of_lt_of_le (by rw [hb]; exact hi') hlc
      have hcur : i' * sz + j' < cur.size := by rw [hcs]; exact flat_lt hj' hi''
      rw [g3]
      obtain ⟨a', v', e1, e2, e3⟩ := hcell i' (by rw [hb]; exact hi') j' hj'
      rw [hb] at e1
      simp only [Body.cell?] at e1
      by_cases hii : i' = i ∧ j ≤ j' ∧ j' < j + n
      · obtain ⟨rfl, hj1, hj2⟩ := hii
        have hlt : j' - j < cs.length := by omega
        have e4 : cs[j' - j]? = some cs[j' - j] := List.getElem?_eq_getElem hlt
        rw [if_pos ⟨by omega, by simp [hn']; omega, hcur⟩]
        have e5 : (a.eval y).cells[j' - j]? = some ((a.eval y).cells[j' - j]'(by omega)) := by simp
        refine ⟨cs[j' - j], (a.eval y).cells[j' - j]'(by omega), ?_, ?_, hrep _ _ _ e4 e5⟩
        · simp only [Body.cell?]
          rw [List.getElem?_set_self hil, Option.bind_some, splice_get e j cs (by omega), if_pos ⟨hj1, by omega⟩]
          exact e4
        · rw [Array.getElem?_toList, show i' * sz + j' - (i' * sz + j) = j' - j by omega]
          exact e5
      · rw [if_neg (fun hc => hii (by
          obtain ⟨c1, c2, _⟩ := hc
          simp only [Array.length_toList, hn'] at c2
          have := flat_inj (sz := sz) (i := i') (j := j') (i' := i) (j' := j + (i' * sz + j' - (i * sz + j))) hj' (by omega) (by omega)
          omega))]
        refine ⟨a', v', ?_, e2, e3⟩
        simp only [Body.cell?]
        by_cases hii2 : i' = i
        · subst hii2
          rw [List.getElem?_set_self hil, Option.bind_some, splice_get e j cs (by omega), if_neg (fun hc => hii ⟨rfl, by omega, by omega⟩)]
          rw [hi, Option.bind_some] at e1
          exact e1
        · rw [List.getElem?_set_ne (fun e => hii2 e.symm)]
          exact e1)
  exact .skip E _ (by simp [execOp, h, hu, Instr.storeAt, Instr.sureAddr, hrun]) ⟨hset.1, .val _, hset.2, Nat.le_refl _⟩

theorem ok_storeB {x y : Operand} {t : TypeId} {id i : Nat} {ob : AObj} {xs : List UInt8} {z : UInt8} (s : Sat E nx H w) (r : RepT E w tm a) (h : o.op = .store t x y) (hx : avOf tm x = .ptr id i 0)
    (hid : H id = some ob) (hb : ob.body = .bytes xs) (hsz1 : ob.sz = 1) (hi : i < xs.length) (hy : avOf tm y = .val (bv z)) (hs : szT P t = some 1) :
    OpOk P o E H a w rid nx ⟨.val undef, [(id, some { ob with body := .bytes (xs.set i z) })], nx⟩ := by
  obtain ⟨b, c, sz, hf, hu⟩ := eval_ptr r hx
  have ro := s.at_ hid hf
  have hsz : sz = ob.sz := ro.1
  have hz1 : sz = 1 := by omega
  subst hz1
  have hv := eval_val r hy
  have hic : i < c := Nat.lt_of_lt_of_le (by rw [hb]; exact hi) ro.2.2.1
  have hrun := store_run (P := P) (w := w) (t := t) (u := a.eval y) (b := b) (k0 := i * 1 + 0) hs (by rw [hv]; rfl) (by rw [hv]; simp [bv, Value.cells, Value.oneCell']) (fun k hk => ro.writable (by omega))
  obtain ⟨_, _, hlc, _, hex, cur, fr, hg, hcs, hfr, hcell⟩ := ro
  obtain ⟨cur', g1, g2, g3, g4, g5, gm⟩ := setCells_spec b ob.t fr (a.eval y).cells.toList (i * 1 + 0) cur w hg
  have hset := sat_set (w' := w.setCells b (i * 1 + 0) (a.eval y).cells.toList) (N := fun id => id = rid ∨ nx ≤ id) (o' := { ob with body := .bytes (xs.set i z) }) s hid hf g1 g4 g5 gm hsz (by rw [g2]; exact hcs) (by rw [hb] at hlc; simpa [Body.len] using hlc)
    (fun hh => by have := hex hh; rw [hb] at this; simpa [Body.len] using this) hfr (by
      intro i' hi' j' hj'
      simp only [Body.len, List.length_set] at hi'
      obtain rfl : j' = 0 := by omega
      have hi'' : i' < c := Nat.lt_of_lt_of_le (by rw [hb]; exact hi') hlc
      rw [g3]
      obtain ⟨a', v', e1, e2, e3⟩ := hcell i' (by rw [hb]; exact hi') 0 hj'
      rw [hb] at e1
      simp only [Body.cell?, if_true] at e1 ⊢
      by_cases hii : i' = i
      · subst hii
        rw [if_pos ⟨by omega, by simp [hv, bv, Value.cells], by omega⟩]
        exact ⟨.val (bv z), bv z, by simp [hi'], by simp [hv, bv, Value.cells], .val _⟩
      · rw [if_neg (by simp [hv, bv, Value.cells]; omega)]
        exact ⟨a', v', by rw [List.getElem?_set_ne (fun e => hii e.symm)]; exact e1, e2, e3⟩)
  exact .skip E _ (by simp only [Nat.add_zero, Nat.mul_one] at hrun; simp [execOp, h, hu, Instr.storeAt, Instr.sureAddr, hrun]) ⟨hset.1, .val _, hset.2, Nat.le_refl _⟩
end
end Go.Proofs.Ytoekncmggjhmjaa
