/- Several texts in one: Fz, Nq, Ge. -/
import Derived.Test.YtmilcpejchjleaaMkp

/- Objects that nobody writes any more: what leads to them is told by what they hold. -/
namespace Go.Proofs.Ytmilcpejchjleaa
open Go.RowKit

/-- an object whose cells are told anew -/
structure AObj.Told (E : Env) (w : World) (B : List Nat) (x y : AObj) : Prop where
  t : y.t = x.t
  sz : y.sz = x.sz
  exact : y.exact = x.exact
  fz : y.fz = x.fz
  len : y.body.len = x.body.len
  cell : ∀ i j a, x.body.cell? i j = some a → ∃ a', y.body.cell? i j = some a' ∧ ∀ v, Rep E w a v → Rep (E.frz B) w a' v

theorem ORep.told {E : Env} {w : World} {B : List Nat} {x y : AObj} (h : x.Told E w B y) {p : Place} (r : ORep E w x p) (hI : ∀ b c s, p = .at_ b c s → ¬ (E.frz B).I b) : ORep (E.frz B) w y p := by
  cases p with
  | nil =>
    obtain ⟨h1, h2⟩ := r
    exact ⟨by rw [h.len]; exact h1, by rw [h.exact]; exact h2⟩
  | at_ b c sz =>
    obtain ⟨h1, h2, h3, h4, h5, cur, fr, h6, h7, h8, h9⟩ := r
    refine ⟨by rw [h.sz]; exact h1, hI _ _ _ rfl, by rw [h.len]; exact h3, h4, by rw [h.exact, h.len]; exact h5, cur, fr, by rw [h.t]; exact h6, h7, by rw [h.fz]; exact h8, fun i hi j hj => ?_⟩
    obtain ⟨a, v, e1, e2, e3⟩ := h9 i (by rw [← h.len]; exact hi) j hj
    obtain ⟨a', f1, f2⟩ := h.cell i j a e1
    exact ⟨a', v, f1, e2, f2 v e3⟩

theorem EvX.frz {P : Program} {n0 : Nat} {c : Code} {st s s' : St} {ex : Ex} (B : List Nat) (h : EvX P n0 c st ex s) (hB : ∀ id ∈ B, n0 ≤ id ∧ ∃ x, heapF s.hp id = some x) (hl : s'.len = s.len) (hn : s'.nx = s.nx)
    (ht : ∀ E w, Sat E s.nx (heapF s.hp) w → ∀ t u, Rep E w (tmF s t) u → Rep (E.frz B) w (tmF s' t) u)
    (hc : ∀ id y, heapF s'.hp id = some y → id ∉ B ∧ ∃ x, heapF s.hp id = some x ∧ ∀ E w, Sat E s.nx (heapF s.hp) w → x.Told E w B y) : EvX P n0 c st ex s' := by
  intro E0 H0 w0 s0 E a w hx hs hr hle Q hQ
  refine h E0 H0 w0 s0 E a w hx hs hr hle Q fun E' a' w' t0 t1 t2 t3 t4 => ?_
  obtain ⟨z1, z2⟩ := sat_frz (N := fun id => n0 ≤ id) t1 (B := B) fun id hid => (hB id hid).2
  have z3 := t0.trans z2 (fun _ h => h) fun _ h => h
  have key : ∀ id y, heapF s'.hp id = some y → ∃ x, dropH (heapF s.hp) B id = some x ∧ heapF s.hp id = some x ∧ x.Told E' w' B y := fun id y hid => by
    obtain ⟨h1, x, h2, h3⟩ := hc id y hid
    refine ⟨x, ?_, h2, h3 E' w' t1⟩
    unfold dropH
    rw [if_neg (by simpa using h1)]
    exact h2
  refine hQ (E'.frz B) a' w' ?_ ?_ ⟨t2.size.trans hl.symm, fun t => ht E' w' t1 t _ (t2.rep t)⟩ t3 (by rw [hn]; exact t4)
  · exact ⟨z3.f, z3.nw, z3.I, z3.I', z3.fr, fun b ⟨id, o, c', sz, h1, h2⟩ => by
      obtain ⟨x, k1, _, _⟩ := key id o h1
      exact z3.hb b ⟨id, x, c', sz, k1, h2⟩, z3.size, z3.os, z3.tape, z3.output⟩
  · refine ⟨fun id y hid => ?_, fun id id' o o' b c s c' s' g1 g2 g3 g4 => ?_, fun id hid => z1.fresh id (by rw [← hn]; exact hid), z1.imm⟩
    · obtain ⟨x, k1, k2, k3⟩ := key id y hid
      obtain ⟨p, p1, p2⟩ := z1.rows id x k1
      obtain ⟨q, q1, q2⟩ := t1.rows id x k2
      have hpq : q = p := by
        have h1 : E'.f id = some p := p1
        rw [h1] at q1
        injection q1 with q1
        exact q1.symm
      subst hpq
      exact ⟨q, p1, q2.told k3 fun b c s e => by
        subst e
        exact p2.2.1⟩
    · obtain ⟨x, k1, _, _⟩ := key id o g1
      obtain ⟨x', k1', _, _⟩ := key id' o' g2
      exact z1.inj id id' x x' b c s c' s' k1 k1' g3 g4

/-- a row of one's own, told by what it holds -/
theorem Rep.frzRow {E : Env} {nx : Nat} {H : Heap} {w : World} {B : List Nat} {id n : Nat} {ob : AObj} {es : List (List UInt8)} {u : Value} (s : Sat E nx H w) (hid : H id = some ob) (hB : id ∈ B) (hb : ob.body = .flat (rowsL es) ∨ ob.body = .rows (rowsL es)) (hz : ob.sz = 1) (hn : n = es.length) (r : Rep E w (.sl id 0 n none) u) : Rep (E.frz B) w (vS es) u := by
  have hlen : ob.body.len = es.length := by rcases hb with h | h <;> rw [h] <;> simp [Body.len, rowsL]
  have hcell : ∀ i, i < es.length → ob.body.cell? i 0 = some (sStr (es.getD i [])) := fun i hi => by
    have e : (rowsL es)[i]? = some [sStr (es.getD i [])] := by
      rw [rowsL, List.getElem?_map, List.getElem?_eq_getElem hi, List.getD_eq_getElem?_getD, List.getElem?_eq_getElem hi]
      rfl
    rcases hb with h | h <;> rw [h] <;> simp [Body.cell?, e]
  cases r with
  | slnil hE hl =>
    have he : es = [] := List.eq_nil_of_length_eq_zero hn.symm
    subst he
    exact .view (b := 0) (o := 0) (fun _ _ => undef) (Nat.le_refl _) (Nat.zero_le _) (fun h => absurd h (by simp)) (fun i h => absurd h (by simp)) (fun i j h => absurd h (by simp)) (fun i j a h => absurd h (by simp))
  | sl hE hc hl hn' hA =>
    rename_i b c sz cap A
    have ro := s.at_ hid hE
    have hsz : sz = 1 := ro.1.trans hz
    subst hsz
    have hread := fun i (hi : i < es.length) => ro.read (i := i) (j := 0) (by rw [hlen]; exact hi) (by omega)
    simp only [Option.getD_none, Nat.add_zero] at hc
    have hmax : c ≤ maxLen := ro.2.2.2.1
    subst hn
    show Rep (E.frz B) w (.view 1 es.length fun i => [sStr (es.getD i [])]) (.slice A es.length cap)
    refine .view (b := b) (o := 0) (fun i _ => (Value.string ⟨(es.getD i []).toArray⟩)) hn' (by omega) (fun h0 => ⟨?_, .inr ⟨id, hB, c, 1, hE⟩⟩) (fun i _ => rfl) (fun i j hi hj => ?_) (fun i j a hi ha => ?_)
    · have := hA.resolve_left (by omega)
      simpa using this
    · obtain rfl : j = 0 := by omega
      obtain ⟨a, v, e1, e2, e3⟩ := hread i hi
      rw [hcell i hi] at e1
      injection e1 with e1
      subst e1
      have := e3.val_inv
      subst this
      simpa using e2
    · match j, ha with
      | 0, ha =>
        simp only [List.getElem?_cons_zero, Option.some.injEq] at ha
        subst ha
        exact .val _
end Go.Proofs.Ytmilcpejchjleaa

/- A list that is nil yet, and one that has rows: one shape for both. -/
namespace Go.Proofs.Ytmilcpejchjleaa
open Go.RowKit

theorem putsT_swap (t : Nat) (x y : AV) (l2 : List (Nat × AV)) : ∀ (l1 : List (Nat × AV)) (u : Nat),
    (putsT (l1 ++ (t, x) :: l2)).get u = (putsT (l1 ++ (t, y) :: l2)).get u ∨ ((putsT (l1 ++ (t, x) :: l2)).get u = some x ∧ (putsT (l1 ++ (t, y) :: l2)).get u = some y)
  | [], u => by
    simp only [List.nil_append, putsT, Tr.get_put']
    by_cases e : u = t
    · rw [if_pos e, if_pos e]; exact .inr ⟨rfl, rfl⟩
    · rw [if_neg e, if_neg e]; exact .inl rfl
  | (k, v) :: l1, u => by
    simp only [List.cons_append, putsT, Tr.get_put']
    by_cases e : u = k
    · rw [if_pos e, if_pos e]; exact .inl rfl
    · rw [if_neg e, if_neg e]; exact putsT_swap t x y l2 l1 u

/-- a nil list may be told as an object without rows -/
theorem EvXL.nil_in {P : Program} {n0 : Nat} {c : Code} {s : St} {ex : Ex} {G G1 : GoalX} (t : Nat) (l1 l2 : List (Nat × AV)) (ty : TypeId) (sz : Nat) (h : EvXL P n0 c (G1.st n0) ex s) (hl : G1.len = G.len) (hk : G1.k = G.k + 1)
    (hg : G.tms ++ G.opn = l1 ++ (t, nilS) :: l2) (hg1 : G1.tms ++ G1.opn = l1 ++ (t, .sl (n0 + G.k) 0 0 none) :: l2) (ho : G1.objs ++ G1.oob = (n0 + G.k, ⟨ty, sz, false, false, .flat []⟩) :: (G.objs ++ G.oob)) : EvXL P n0 c (G.st n0) ex s := by
  obtain ⟨n, h⟩ := h
  refine ⟨n, fun E0 H0 w0 s0 E a w hx hs hr hle Q hQ => ?_⟩
  have hfr : E.f (n0 + G.k) = none := hs.fresh _ (Nat.le_refl _)
  let E1 : Env := ⟨fun i => if i = n0 + G.k then some .nil else E.f i, E.I⟩
  have hf : ∀ id p, E.f id = some p → E1.f id = some p := fun id p hid => by
    show (if id = n0 + G.k then some Place.nil else E.f id) = some p
    rw [if_neg (fun e => by subst e; rw [hfr] at hid; cases hid)]
    exact hid
  have hm : More E w E1 w := ⟨hf, fun _ h => h, fun _ _ => rfl⟩
  have hat : ∀ id b c s, E1.f id = some (.at_ b c s) → E.f id = some (.at_ b c s) := fun id b c s hid => by
    have hid : (if id = n0 + G.k then some Place.nil else E.f id) = some (.at_ b c s) := hid
    split at hid
    · cases hid
    · exact hid
  have hheap : ∀ i, heapF (G1.st n0).hp i = if i = n0 + G.k then some ⟨ty, sz, false, false, .flat []⟩ else heapF (G.st n0).hp i := fun i => by
    show heapF (treeH (G1.objs ++ G1.oob)) i = if i = n0 + G.k then _ else heapF (treeH (G.objs ++ G.oob)) i
    rw [treeH_ok, treeH_ok, ho]
    simp only [hp]
  have hsub : ∀ i x b c s, heapF (G1.st n0).hp i = some x → E1.f i = some (.at_ b c s) → heapF (G.st n0).hp i = some x ∧ E.f i = some (.at_ b c s) := fun i x b c s h1 h2 => by
    rw [hheap] at h1
    have h2' := hat _ _ _ _ h2
    split at h1
    · rename_i e
      subst e
      rw [hfr] at h2'
      cases h2'
    · exact ⟨h1, h2'⟩
  refine h E0 H0 w0 s0 E1 a w ?_ ?_ ?_ ?_ Q hQ
  · exact ⟨fun id p hid => hf _ _ (hx.f id p hid), fun id p hid => by
      have hid : (if id = n0 + G.k then some Place.nil else E.f id) = some p := hid
      split at hid
      · rename_i e; exact .inr (by show n0 ≤ id; omega)
      · exact hx.nw id p hid, hx.I, hx.I', hx.fr, fun b ⟨id, x, c', sz', h1, h2⟩ => by
        obtain ⟨k1, k2⟩ := hsub _ _ _ _ _ h1 h2
        exact hx.hb b ⟨id, x, c', sz', k1, k2⟩, hx.size, hx.os, hx.tape, hx.output⟩
  · refine ⟨fun id o hid => ?_, fun id id' o o' b c s c' s' g1 g2 g3 g4 => ?_, fun id hid => ?_, hs.imm⟩
    · rw [hheap] at hid
      split at hid
      · rename_i e
        injection hid with hid
        subst hid
        exact ⟨.nil, by show (if id = n0 + G.k then some Place.nil else E.f id) = _; rw [if_pos e], rfl, rfl⟩
      · obtain ⟨p, p1, p2⟩ := hs.rows id o hid
        refine ⟨p, hf _ _ p1, ?_⟩
        cases p with
        | nil => exact p2
        | at_ b c s => exact p2.more hm p2.2.1 rfl
    · obtain ⟨k1, k2⟩ := hsub _ _ _ _ _ g1 g3
      obtain ⟨k3, k4⟩ := hsub _ _ _ _ _ g2 g4
      exact hs.inj id id' o o' b c s c' s' k1 k3 k2 k4
    · have hid : n0 + G1.k ≤ id := hid
      show (if id = n0 + G.k then some Place.nil else E.f id) = none
      rw [if_neg (by omega)]
      exact hs.fresh id (by show n0 + G.k ≤ id; omega)
  · refine ⟨hr.size.trans hl.symm, fun u => ?_⟩
    have h0 := (hr.rep u).more hm
    have e0 : tmF (G.st n0) u = ((putsT (G.tms ++ G.opn)).get u).getD .any := rfl
    have e1 : tmF (G1.st n0) u = ((putsT (G1.tms ++ G1.opn)).get u).getD .any := rfl
    rw [e1, hg1]
    rw [e0, hg] at h0
    rcases putsT_swap t nilS (.sl (n0 + G.k) 0 0 none) l2 l1 u with h | ⟨h1, h2⟩
    · rw [← h]; exact h0
    · rw [h1] at h0
      rw [h2]
      have h0 : Rep E1 w nilS (a.tmps.getD u undef) := h0
      have := h0.val_inv
      rw [this]
      exact .slnil (by show (if n0 + G.k = n0 + G.k then some Place.nil else E.f _) = _; rw [if_pos rfl]) rfl
  · show n0 ≤ n0 + G1.k
    omega
end Go.Proofs.Ytmilcpejchjleaa

/- Lists of any rows, wherever they lie. -/
namespace Go.Proofs.Ytmilcpejchjleaa
open Go.RowKit

structure RTy (α : Type) where
  row : α → List AV
  un : List AV → α
  d : α
  sz : Nat
  un_row : ∀ a, un (row a) = a
  len : ∀ a, (row a).length = sz
  ren : ∀ a (r : Nat → Nat), renL r (row a) = row a

section
variable {α : Type} (R : RTy α)
def RTy.v (l : List α) : AV := .view R.sz l.length fun i => R.row (l.getD i R.d)
def rowsG (l : List α) : List (List AV) := l.map R.row
theorem RTy.ren_v (l : List α) (r : Nat → Nat) : (R.v l).ren r = R.v l := by
  show AV.view R.sz l.length (fun i => renL r (R.row (l.getD i R.d))) = AV.view R.sz l.length fun i => R.row (l.getD i R.d)
  simp only [R.ren]
/-- what a list that is seen holds -/
def ofVG : AV → List α
  | .view _ n g => (List.range n).map fun i => R.un (g i)
  | _ => []
theorem RTy.ofV_v (l : List α) : ofVG R (R.v l) = l := by
  unfold RTy.v ofVG
  apply List.ext_getElem
  · simp
  · intro i h1 h2
    simp only [List.length_map, List.length_range] at h1
    simp [R.un_row, List.getD_eq_getElem?_getD, h1]
def ofRG (l : List (List AV)) : List α := l.map R.un
def okRG (l : List (List AV)) : Prop := ∀ e ∈ l, e = R.row (R.un e)
theorem RTy.ofR_rows (l : List α) : ofRG R (rowsG R l) = l := by
  unfold ofRG rowsG
  rw [List.map_map]
  have : R.un ∘ R.row = id := by funext a; exact R.un_row a
  rw [this, List.map_id]
theorem RTy.okR_rows (l : List α) : okRG R (rowsG R l) := by
  intro e he
  obtain ⟨a, _, rfl⟩ := List.mem_map.1 he
  rw [R.un_row]
theorem RTy.rows_len (l : List α) : (rowsG R l).length = l.length := by simp [rowsG]
theorem RTy.rows_app (a b : List α) : rowsG R a ++ rowsG R b = rowsG R (a ++ b) := by simp [rowsG]

/-- a list, wherever it lies -/
def RTy.of (H : Heap) : AV → Option (List α × Prop)
  | .view sz n g => some (ofVG R (.view sz n g), .view sz n g = R.v (ofVG R (.view sz n g)))
  | .val v => some ([], v = .slice none 0 0)
  | .bytes xs => some ([], xs = [])
  | .sl id off n _ =>
    match H id with
    | some ob =>
      match ob.body with
      | .rows l => some (ofRG R ((l.drop off).take n), okRG R ((l.drop off).take n) ∧ ob.sz = R.sz ∧ off + n ≤ l.length)
      | .flat l => some (ofRG R ((l.drop off).take n), okRG R ((l.drop off).take n) ∧ ob.sz = R.sz ∧ off + n ≤ l.length)
      | _ => none
    | none => none
  | _ => none

theorem RTy.frs {H : Heap} {id off n : Nat} {lim : Option Nat} {ob : AObj} {l : List (List AV)} (h : H id = some ob) (hb : ob.body = .rows l ∨ ob.body = .flat l) (q1 : okRG R ((l.drop off).take n)) (q2 : ob.sz = R.sz) (q3 : off + n ≤ l.length) :
    Frs H (.sl id off n lim) (R.v (ofRG R ((l.drop off).take n))) := by
  have hn : (ofRG R ((l.drop off).take n)).length = n := by simp [ofRG]; omega
  have hg : ∀ i, i < n → l.getD (off + i) [] = R.row ((ofRG R ((l.drop off).take n)).getD i R.d) := by
    intro i hi
    have h1 : ((l.drop off).take n)[i]? = l[off + i]? := by rw [List.getElem?_take, if_pos hi, List.getElem?_drop]
    have h2 : l[off + i]? = some (l[off + i]'(by omega)) := List.getElem?_eq_getElem (by omega)
    have h3 := q1 _ (List.mem_of_getElem? (h1.trans h2))
    unfold ofRG
    rw [List.getD_eq_getElem?_getD, List.getD_eq_getElem?_getD, List.getElem?_map, h1, h2]
    simp only [Option.getD_some, Option.map_some]
    exact h3
  have := Frs.rows (lim := lim) (off := off) (n := n) (g := fun i => R.row ((ofRG R ((l.drop off).take n)).getD i R.d)) h hb q3 (fun i hi => (hg i hi).symm) (fun i _ => by rw [q2]; exact R.len _) (fun i _ r => R.ren _ r)
  rw [q2] at this
  unfold RTy.v
  rw [hn]
  exact this

theorem RTy.nil_rep {E : Env} {w : World} {A : Option Addr} {c : Nat} (hm : c ≤ maxLen) : Rep E w (R.v []) (.slice A 0 c) :=
  .view (b := 0) (o := 0) (fun _ _ => undef) (Nat.zero_le _) hm (fun h => absurd h (by simp)) (fun i h => absurd h (by simp)) (fun i j h => absurd h (by simp)) (fun i j a h => absurd h (by simp))

theorem RTy.of_frs {H : Heap} {x : AV} {ls : List α} {p : Prop} (hx : R.of H x = some (ls, p)) (hp : p) : ∃ y, Frs H y (R.v ls) ∧ ∀ E w u, Rep E w x u → Rep E w y u := by
  unfold RTy.of at hx
  split at hx
  · rename_i sz n f
    simp only [Option.some.injEq, Prod.mk.injEq] at hx
    obtain ⟨rfl, rfl⟩ := hx
    generalize ofVG R (.view sz n f) = z at *
    rw [hp]
    exact ⟨R.v z, .free fun r => R.ren_v z r, fun E w u h => h⟩
  · rename_i v'
    simp only [Option.some.injEq, Prod.mk.injEq] at hx
    obtain ⟨rfl, rfl⟩ := hx
    subst hp
    refine ⟨R.v [], .free fun r => R.ren_v [] r, fun E w u h => ?_⟩
    rw [h.val_inv]
    exact R.nil_rep (Nat.zero_le _)
  · rename_i xs
    simp only [Option.some.injEq, Prod.mk.injEq] at hx
    obtain ⟨rfl, rfl⟩ := hx
    subst hp
    refine ⟨R.v [], .free fun r => R.ren_v [] r, fun E w u h => ?_⟩
    cases h with
    | bytes hn hc hm hb =>
      rw [List.length_nil] at hn
      subst hn
      exact R.nil_rep hm
  · split at hx
    · rename_i ob hid
      split at hx
      · rename_i l hb
        simp only [Option.some.injEq, Prod.mk.injEq] at hx
        obtain ⟨rfl, rfl⟩ := hx
        exact ⟨_, R.frs hid (.inl hb) hp.1 hp.2.1 hp.2.2, fun E w u h => h⟩
      · rename_i l hb
        simp only [Option.some.injEq, Prod.mk.injEq] at hx
        obtain ⟨rfl, rfl⟩ := hx
        exact ⟨_, R.frs hid (.inr hb) hp.1 hp.2.1 hp.2.2, fun E w u h => h⟩
      · cases hx
    · cases hx
  · cases hx

end

/-- the same, with names of its own for what is read (so that a print is short) -/
structure RTyW (α : Type) where
  R : RTy α
  sz : Nat
  fV : AV → List α
  fR : List (List AV) → List α
  kR : List (List AV) → Prop
  vv : List α → AV
  hz : sz = R.sz
  hV : ∀ x, fV x = ofVG R x
  hR : ∀ x, fR x = ofRG R x
  hK : ∀ x, kR x = okRG R x
  hv : ∀ x, vv x = R.v x

section
variable {α : Type} (R : RTyW α)
def RTyW.of (H : Heap) : AV → Option (List α × Prop)
  | .view sz n g => some (R.fV (.view sz n g), .view sz n g = R.vv (R.fV (.view sz n g)))
  | .val v => some ([], v = .slice none 0 0)
  | .bytes xs => some ([], xs = [])
  | .sl id off n _ =>
    match H id with
    | some ob =>
      match ob.body with
      | .rows l => some (R.fR ((l.drop off).take n), R.kR ((l.drop off).take n) ∧ ob.sz = R.sz ∧ off + n ≤ l.length)
      | .flat l => some (R.fR ((l.drop off).take n), R.kR ((l.drop off).take n) ∧ ob.sz = R.sz ∧ off + n ≤ l.length)
      | _ => none
    | none => none
  | _ => none
theorem RTyW.of_eq (H : Heap) (x : AV) : R.of H x = R.R.of H x := by
  unfold RTyW.of RTy.of
  simp only [R.hV, R.hR, R.hK, R.hv, R.hz]
theorem RTyW.of_frs {H : Heap} {x : AV} {ls : List α} {p : Prop} (hx : R.of H x = some (ls, p)) (hp : p) : ∃ y, Frs H y (R.vv ls) ∧ ∀ E w u, Rep E w x u → Rep E w y u := by
  rw [R.of_eq] at hx
  rw [R.hv]
  exact R.R.of_frs hx hp

/-- a function of such a list that yields a plain value, known -/
def RTyW.known (f : FuncId) (v : List α → Value) (K : List α → Prop) : Inl := fun g xs L nx =>
  if g = f then
    match xs with
    | [x] =>
      match R.of (hp L) x with
      | some (ls, p) => if L.all (fun q => decide (q.1 < nx)) = true then some (.val (v ls), L, nx, [p, K ls]) else none
      | none => none
    | _ => none
  else none
theorem RTyW.known_ok {P : Program} {f : FuncId} {v : List α → Value} {K : List α → Prop} (hc : ∀ ls, K ls → ACall P f [R.vv ls] [] 0 (.val (v ls)) [] 0) : InlOk P (R.known f v K) := by
  intro g xs L nx w L' nx' q h hq
  unfold RTyW.known at h
  split at h
  · rename_i hg
    subst hg
    split at h
    · rename_i x
      split at h
      · rename_i ls p hx
        split at h
        · rename_i hlt
          simp only [Option.some.injEq, Prod.mk.injEq] at h
          obtain ⟨rfl, rfl, rfl, rfl⟩ := h
          obtain ⟨y, hf, hr⟩ := R.of_frs hx (hq _ (List.mem_cons_self ..))
          have := (hc ls (hq _ (List.mem_cons_of_mem _ (List.mem_cons_self ..)))).fresh' (L := L) (nx := nx) (by rfl) (by rfl) (FrsL.cons hf FrsL.nil) hlt
          refine ⟨?_, Nat.le_refl _⟩
          have h2 : ACall P g [y] L nx (.val (v ls)) L nx := by simpa [AV.ren, renH] using this
          refine h2.args rfl fun E w k a a' u h1 h2 h3 => ?_
          cases k with
          | zero =>
            simp only [List.getElem?_cons_zero, Option.some.injEq] at h1 h2
            subst h1 h2
            exact hr _ _ _ h3
          | succ k => simp at h1
        · cases h
      · cases h
    · cases h
  · cases h
end

/-- a loop over a list in which each element is looked at: the list's end, or the first that fails -/
theorem dropStepG {α : Type} {d : α} {ls : List α} {s : α} {r : List α} {i : Nat} (h : ls.drop i = s :: r) : i < ls.length ∧ ls.getD i d = s ∧ ls.drop (i + 1) = r := by
  have hk : i < ls.length := by
    rcases Nat.lt_or_ge i ls.length with h' | h'
    · exact h'
    · rw [List.drop_of_length_le h'] at h; cases h
  have hc := List.drop_eq_getElem_cons hk
  rw [h] at hc
  injection hc with h1 h2
  exact ⟨hk, by rw [List.getD_eq_getElem?_getD, List.getElem?_eq_getElem hk, h1]; rfl, h2.symm⟩

theorem any_loop {P : Program} {c : Code} {α : Type} {f : α → Bool} {ls : List α} {G : Nat → GoalX} {E N : GoalX}
    (hs : ∀ i (h : i < ls.length), f ls[i] = false → EvX P 0 c ((G i).st 0) .normal ((G (i + 1)).st 0))
    (hb : ∀ i (h : i < ls.length), f ls[i] = true → EvX P 0 c ((G i).st 0) .ret (N.st 0))
    (he : ∀ i, ls.length ≤ i → EvX P 0 c ((G i).st 0) (.exit 0) (E.st 0)) : ∀ (rest : List α) (i : Nat), ls.drop i = rest → EvXL P 0 c ((G i).st 0) (if rest.any f then .ret else .exit 0) ((if rest.any f then N else E).st 0)
  | [], i, h => by
    simp only [List.any_nil, Bool.false_eq_true, if_false]
    exact EvXL.last (he i (by simpa using h)) (by simp)
  | s :: r, i, h => by
    have hk : i < ls.length := by
      rcases Nat.lt_or_ge i ls.length with h' | h'
      · exact h'
      · rw [List.drop_of_length_le h'] at h; cases h
    have hc := List.drop_eq_getElem_cons hk
    rw [h] at hc
    injection hc with h1 h2
    cases hf : f s with
    | true =>
      have e : (s :: r).any f = true := by simp [hf]
      rw [e]
      exact EvXL.last (hb i hk (by rw [← h1]; exact hf)) (by simp)
    | false =>
      have e : (s :: r).any f = r.any f := by simp [hf]
      rw [e]
      exact EvXL.step (hs i hk (by rw [← h1]; exact hf)) (any_loop hs hb he r (i + 1) h2.symm)
end Go.Proofs.Ytmilcpejchjleaa
