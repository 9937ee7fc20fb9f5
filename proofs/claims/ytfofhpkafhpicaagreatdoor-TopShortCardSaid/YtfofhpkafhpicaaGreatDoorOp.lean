/- Arguments of a law, opened: what each argument is, as the engine sees it; and what holds of them behind a call that turns nothing old. Plain theorems over any program. -/
import Derived.Test.YtfofhpkafhpicaaGreatDoorMez
import Derived.Test.YtfofhpkafhpicaaGreatDoorCard
namespace Go.Proofs.YtfofhpkafhpicaaGreatDoor
open Go.ChangeShapes Go.WideShapes Go.ChangeAt Go.RowKit

inductive Leaf where
  | int (k : IntKind)
  | bool
  | str
  | bytes
  | sl (l : List Leaf)

inductive LeafOk : Leaf → AV → Prop where
  | int {k : IntKind} {z : Int} (h : (Lit.int k z).wf = true) : LeafOk (.int k) (.val (.int k z))
  | bool (b : Bool) : LeafOk .bool (.val (.bool b))
  | str {s : ByteArray} (h : s.size ≤ maxLen) : LeafOk .str (.val (.string s))
  | bytes (xs : List UInt8) : LeafOk .bytes (.bytes xs)
  | sl {l : List Leaf} {n : Nat} {g : Nat → List AV} (h1 : ∀ i, i < n → (g i).length = l.length) (h2 : ∀ (i k : Nat) lf a, i < n → l[k]? = some lf → (g i)[k]? = some a → LeafOk lf a) : LeafOk (.sl l) (.view l.length n g)

/-- a type's cells, field by field -/
def leafsF (P : Program) (f : TypeId → Option (List Leaf)) : List Field → Nat → Option (List Leaf)
  | [], _ => some []
  | x :: fs, off =>
    if x.offset = off then
      match f x.type with
      | some l => if P.cellsOf x.type = l.length then (leafsF P f fs (off + l.length)).map (l ++ ·) else none
      | none => none
    else none

def leafs (P : Program) : Nat → TypeId → Option (List Leaf)
  | 0, _ => none
  | n + 1, t =>
    match P.underlying t with
    | some (.int k) => some [.int k]
    | some .bool => some [.bool]
    | some .string => some [.str]
    | some (.slice e) =>
      match P.underlying e with
      | some (.int .u8) => if P.cellsOf e = 1 then some [.bytes] else none
      | _ => match leafs P n e with
        | some l => if P.cellsOf e = l.length ∧ 0 < l.length then some [.sl l] else none
        | none => none
    | some (.array m e) =>
      match leafs P n e with
      | some l => if P.cellsOf e = l.length ∧ P.cellsOf t = m * l.length then some (List.replicate m l).flatten else none
      | none => none
    | some (.struct fs) =>
      match leafsF P (leafs P n) fs.toList 0 with
      | some l => if P.cellsOf t = l.length then some l else none
      | none => none
    | _ => none

/-- cells that are so, as the engine sees them -/
def Cells (w : World) (ls : List Leaf) (cs : List Value) : Prop :=
  cs.length = ls.length ∧ ∃ xs : List AV, xs.length = ls.length ∧ ∀ (k : Nat) lf, ls[k]? = some lf → ∃ a v, xs[k]? = some a ∧ cs[k]? = some v ∧ LeafOk lf a ∧ Rep ⟨fun _ => none, fun b => b < w.heap.size⟩ w a v

theorem Cells.one {w : World} {lf : Leaf} {a : AV} {v : Value} (h : LeafOk lf a) (r : Rep ⟨fun _ => none, fun b => b < w.heap.size⟩ w a v) : Cells w [lf] [v] :=
  ⟨rfl, [a], rfl, fun k l hk => by
    cases k with
    | zero => simp at hk; subst hk; exact ⟨a, v, rfl, rfl, h, r⟩
    | succ k => simp at hk⟩

theorem Cells.append {w : World} {l1 l2 : List Leaf} {c1 c2 : List Value} (h1 : Cells w l1 c1) (h2 : Cells w l2 c2) : Cells w (l1 ++ l2) (c1 ++ c2) := by
  obtain ⟨e1, x1, n1, k1⟩ := h1
  obtain ⟨e2, x2, n2, k2⟩ := h2
  refine ⟨by simp [e1, e2], x1 ++ x2, by simp [n1, n2], fun k lf hk => ?_⟩
  by_cases hlt : k < l1.length
  · rw [List.getElem?_append_left hlt] at hk
    obtain ⟨a, v, g1, g2, g3, g4⟩ := k1 k lf hk
    exact ⟨a, v, by rw [List.getElem?_append_left (by omega)]; exact g1, by rw [List.getElem?_append_left (by omega)]; exact g2, g3, g4⟩
  · rw [List.getElem?_append_right (by omega)] at hk
    obtain ⟨a, v, g1, g2, g3, g4⟩ := k2 _ lf hk
    exact ⟨a, v, by rw [List.getElem?_append_right (by omega), n1]; exact g1, by rw [List.getElem?_append_right (by omega), e1]; exact g2, g3, g4⟩

theorem Cells.nil (w : World) : Cells w [] [] := ⟨rfl, [], rfl, fun k lf hk => by simp at hk⟩

section
variable {H : Type} {enc : TypeId × Value → H} {P : Program} {w : World}

theorem open_leafsF {n fuel : Nat} (ih : ∀ t ls fuel cs (y : DataW H × List MemPlace), leafs P n t = some ls → DataW.trod enc P w 0 (fun _ => true) true fuel t cs = some y → Cells w ls cs) :
    ∀ (fs : List Field) (off : Nat) (ls : List Leaf) (cs : List Value), leafsF P (leafs P n) fs off = some ls → off + ls.length ≤ cs.length →
      (∀ f ∈ fs, ∃ y : DataW H × List MemPlace, DataW.trod enc P w 0 (fun _ => true) true fuel f.type ((cs.drop f.offset).take (P.cellsOf f.type)) = some y) → Cells w ls ((cs.drop off).take ls.length)
  | [], off, ls, cs, h, hl, hf => by
    simp only [leafsF, Option.some.injEq] at h
    subst h
    simpa using Cells.nil w
  | f :: fs, off, ls, cs, h, hl, hf => by
    simp only [leafsF] at h
    split at h
    · rename_i ho
      split at h
      · rename_i l1 h1
        split at h
        · rename_i hc
          obtain ⟨l2, h2, rfl⟩ := Option.map_eq_some_iff.1 h
          simp only [List.length_append] at hl
          obtain ⟨y, hy⟩ := hf f List.mem_cons_self
          rw [ho, hc] at hy
          have c1 := ih _ _ _ _ _ h1 hy
          have c2 := open_leafsF (fuel := fuel) ih fs (off + l1.length) l2 cs h2 (by omega) fun g hg => hf g (List.mem_cons_of_mem _ hg)
          have := c1.append c2
          rw [List.length_append]
          have e : (cs.drop off).take (l1.length + l2.length) = (cs.drop off).take l1.length ++ (cs.drop (off + l1.length)).take l2.length := by
            rw [List.take_add, List.drop_drop]
          rw [e]
          exact this
        · cases h
      · cases h
    · cases h

theorem open_array_aux {w : World} {l : List Leaf} : ∀ (m : Nat) (cs : List Value), cs.length = m * l.length → (∀ i, i < m → Cells w l ((cs.drop (i * l.length)).take l.length)) → Cells w (List.replicate m l).flatten cs
  | 0, cs, h, _ => by
    have : cs = [] := List.eq_nil_of_length_eq_zero (by omega)
    subst this
    exact Cells.nil w
  | m + 1, cs, h, hi => by
    have hm : (m + 1) * l.length = m * l.length + l.length := Nat.succ_mul _ _
    have h0 := hi 0 (by omega)
    simp only [Nat.zero_mul, List.drop_zero] at h0
    have ih := open_array_aux (w := w) (l := l) m (cs.drop l.length) (by rw [List.length_drop]; omega) fun i hlt => by
      have := hi (i + 1) (by omega)
      rwa [Nat.succ_mul, Nat.add_comm, ← List.drop_drop] at this
    rw [List.replicate_succ, List.flatten_cons, ← List.take_append_drop l.length cs]
    exact h0.append ih

theorem open_leafs : ∀ (n : Nat) (t : TypeId) (ls : List Leaf) (fuel : Nat) (cs : List Value) (y : DataW H × List MemPlace), leafs P n t = some ls → DataW.trod enc P w 0 (fun _ => true) true fuel t cs = some y → Cells w ls cs
  | 0, _, _, _, _, _, h, _ => by cases h
  | n + 1, t, ls, fuel, cs, y, h, hd => by
    simp only [leafs] at h
    split at h
    · rename_i k ht
      injection h with h
      subst h
      obtain ⟨z, rfl, _, hw⟩ := DataW.trod_int ht hd
      exact Cells.one (.int hw) (.val _)
    · rename_i ht
      injection h with h
      subst h
      obtain ⟨b, rfl, _⟩ := DataW.trod_bool ht hd
      exact Cells.one (.bool b) (.val _)
    · rename_i ht
      injection h with h
      subst h
      obtain ⟨s, rfl, _, hs⟩ := DataW.trod_string ht hd
      exact Cells.one (.str hs) (.val _)
    · rename_i e ht
      split at h
      · rename_i he
        split at h
        · rename_i hc
          injection h with h
          subst h
          rcases open_ints ht he hc hd with ⟨rfl, _⟩ | ⟨a, len, cap, zs, rfl, _, hl, hm, hz, _, hcell, hwz⟩
          · exact Cells.one (.bytes []) (.bytes rfl (Nat.le_refl _) (Nat.zero_le _) fun h => absurd h (by omega))
          · have hz' : zs.length = cap := by simpa using hz
            refine Cells.one (.bytes ((zs.take len).map fun z => UInt8.ofNat z.toNat)) (.bytes (by simp [List.length_take]; omega) hl hm fun hn => ?_)
            have c0 := hcell 0 (by omega)
            obtain ⟨b, off, spot⟩ := a
            have hspot : spot = none := by simpa [Addr.add] using World.cell?_spot c0
            subst hspot
            refine ⟨b, off, rfl, ?_, fun i x hx => ?_⟩
            · have := World.block_lt_of_cell? _ _ c0
              simpa [Addr.add] using this
            · simp only [List.getElem?_map, Option.map_eq_some_iff] at hx
              obtain ⟨z, hzi, rfl⟩ := hx
              rw [List.getElem?_take] at hzi
              split at hzi
              · have hlt : i < zs.length := (List.getElem?_eq_some_iff.1 hzi).1
                have hc := hcell i hlt
                rw [add_zero_spot] at hc
                rw [hc]
                have hzv : zs.getD i 0 = z := by simp [List.getD, hzi]
                rw [hzv]
                have hb : 0 ≤ z ∧ z ≤ 255 := by
                  have := hwz z (List.mem_of_getElem? hzi)
                  simp [Lit.wf, IntKind.min, IntKind.max, IntKind.signed, IntKind.bits] at this
                  omega
                simp only [bv]
                congr 2
                simp [UInt8.toNat_ofNat']
                omega
              · cases hzi
        · cases h
      · split at h
        · rename_i l hl'
          split at h
          · rename_i hc
            injection h with h
            subst h
            rcases DataW.trod_slice ht hd with ⟨rfl, _⟩ | ⟨a, len, cap, elems, rest, m, _, rfl, _, _, hl, hm, hlen, hel, _, _⟩
            · refine Cells.one (.sl (n := 0) (g := fun _ => []) (fun i hi => by omega) fun i k lf a hi => by omega) ?_
              exact .view (b := 0) (o := 0) (fun _ _ => .bool false) (Nat.le_refl _) (Nat.zero_le _) (fun h => by omega) (fun i hi => by omega) (fun i j hi => by omega) fun i j a hi => by omega
            · have each : ∀ i, i < len → ∃ ci : List Value, w.cells? 0 (a.add (i * P.cellsOf e)) (P.cellsOf e) = some ci ∧ Cells w l ci := by
                intro i hi
                have h1 := hel i hi
                have h2 : ∃ z, elems[i]? = some z := ⟨_, List.getElem?_eq_getElem (by omega)⟩
                obtain ⟨z, hz⟩ := h2
                rw [hz] at h1
                obtain ⟨ci, g1, g2⟩ := Option.bind_eq_some_iff.1 h1
                exact ⟨ci, g1, open_leafs n e l _ _ _ hl' g2⟩
              have hs0 : 0 < len → a.spot = none ∧ a.block < w.heap.size := by
                intro h0
                obtain ⟨ci, g1, _⟩ := each 0 h0
                obtain ⟨_, g2, g3⟩ := World.cells?_some g1
                have g4 := g3 0 (by omega)
                have : ∃ v, ci[0]? = some v := ⟨_, List.getElem?_eq_getElem (by omega)⟩
                obtain ⟨v, hv⟩ := this
                rw [hv] at g4
                simp only [Nat.zero_mul] at g4
                have e0 : (a.add 0).add 0 = a := by obtain ⟨b, o, s⟩ := a; simp [Addr.add]
                rw [e0] at g4
                exact ⟨World.cell?_spot g4, World.block_lt_of_cell? _ _ g4⟩
              have hch : ∃ (C : Nat → List Value) (G : Nat → List AV), ∀ i, i < len → w.cells? 0 (a.add (i * P.cellsOf e)) (P.cellsOf e) = some (C i) ∧ (C i).length = l.length ∧ (G i).length = l.length ∧
                  ∀ (k : Nat) lf, l[k]? = some lf → ∃ x v, (G i)[k]? = some x ∧ (C i)[k]? = some v ∧ LeafOk lf x ∧ Rep ⟨fun _ => none, fun b => b < w.heap.size⟩ w x v := by
                have : ∀ i, ∃ (c : List Value) (g : List AV), i < len → w.cells? 0 (a.add (i * P.cellsOf e)) (P.cellsOf e) = some c ∧ c.length = l.length ∧ g.length = l.length ∧
                    ∀ (k : Nat) lf, l[k]? = some lf → ∃ x v, g[k]? = some x ∧ c[k]? = some v ∧ LeafOk lf x ∧ Rep ⟨fun _ => none, fun b => b < w.heap.size⟩ w x v := by
                  intro i
                  by_cases hi : i < len
                  · obtain ⟨ci, g1, g2, xs, g3, g4⟩ := each i hi
                    exact ⟨ci, xs, fun _ => ⟨g1, g2, g3, g4⟩⟩
                  · exact ⟨[], [], fun h => absurd h hi⟩
                exact ⟨fun i => (this i).choose, fun i => (this i).choose_spec.choose, fun i => (this i).choose_spec.choose_spec⟩
              obtain ⟨C, G, hCG⟩ := hch
              have kOf : ∀ i (k : Nat), i < len → k < l.length → ∃ lf x v, l[k]? = some lf ∧ (G i)[k]? = some x ∧ (C i)[k]? = some v ∧ LeafOk lf x ∧ Rep ⟨fun _ => none, fun b => b < w.heap.size⟩ w x v := by
                intro i k hi hk
                obtain ⟨x, v, g1, g2, g3, g4⟩ := (hCG i hi).2.2.2 k _ (List.getElem?_eq_getElem hk)
                exact ⟨_, x, v, List.getElem?_eq_getElem hk, g1, g2, g3, g4⟩
              obtain ⟨b, o, s⟩ := a
              refine Cells.one (.sl (n := len) (g := G) (fun i hi => (hCG i hi).2.2.1) fun i k lf x hi hk hx => ?_) ?_
              · obtain ⟨x', v, g1, g2, g3, g4⟩ := (hCG i hi).2.2.2 k lf hk
                rw [hx] at g1
                injection g1 with g1
                subst g1
                exact g3
              · refine .view (b := b) (o := o) (fun i j => (C i).getD j (.bool false)) hl hm (fun h0 => ?_) (fun i hi => (hCG i hi).2.2.1) (fun i j hi hj => ?_) fun i j x hi hx => ?_
                · obtain ⟨h1, h2⟩ := hs0 h0
                  simp only at h1 h2
                  rw [h1]
                  exact ⟨rfl, h2⟩
                · obtain ⟨h1, _⟩ := hs0 (by omega)
                  simp only at h1
                  obtain ⟨lf, x, v, g1, g2, g3, g4, g5⟩ := kOf i j hi hj
                  obtain ⟨_, k2, k3⟩ := World.cells?_some (hCG i hi).1
                  have k4 := k3 j (by omega)
                  rw [h1, add_zero_spot, add_zero_spot] at k4
                  rw [hc.1] at k4
                  rw [k4, g3]
                  simp [g3]
                · have hj : j < l.length := by have := (List.getElem?_eq_some_iff.1 hx).1; rw [(hCG i hi).2.2.1] at this; exact this
                  obtain ⟨lf, x', v, g1, g2, g3, g4, g5⟩ := kOf i j hi hj
                  rw [hx] at g2
                  injection g2 with g2
                  subst g2
                  simp [g3]
                  exact g5
          · cases h
        · cases h
    · rename_i m e ht
      split at h
      · rename_i l hl
        split at h
        · rename_i hc
          injection h with h
          subst h
          obtain ⟨xs, k, _, _, hlen, hx, hi⟩ := DataW.trod_array ht hd
          refine open_array_aux m cs (by rw [hlen, hc.2]) fun i hlt => ?_
          have h1 := hi i hlt
          have h2 : ∃ z, xs[i]? = some z := ⟨_, List.getElem?_eq_getElem (by omega)⟩
          obtain ⟨z, hz⟩ := h2
          rw [hz, hc.1] at h1
          exact open_leafs n e l _ _ _ hl h1
        · cases h
      · cases h
    · rename_i fs ht
      split at h
      · rename_i l hl
        split at h
        · rename_i hc
          injection h with h
          subst h
          obtain ⟨xs, k, _, _, hlen, hx, hi⟩ := DataW.trod_struct ht hd
          have := open_leafsF (H := H) (enc := enc) (w := w) (fuel := k) (fun t ls fuel cs y h1 h2 => open_leafs n t ls fuel cs y h1 h2) fs.toList 0 l cs hl (by omega) fun f hf => by
            obtain ⟨i, hi', rfl⟩ := List.getElem_of_mem hf
            have h1 := hi i _ (by simpa using Array.getElem?_eq_getElem (by simpa using hi'))
            have h2 : ∃ z, xs[i]? = some z := ⟨_, List.getElem?_eq_getElem (by rw [hx]; simpa using hi')⟩
            obtain ⟨z, hz⟩ := h2
            rw [hz] at h1
            exact ⟨z, by simpa using h1⟩
          simpa [List.take_of_length_le (by omega : cs.length ≤ l.length)] using this
        · cases h
      · cases h
    · cases h
end

/-- what an argument of a type is, as the engine sees it -/
def isRow (P : Program) (t : TypeId) : Bool := match P.underlying t with | some (.struct _) | some (.array _ _) => true | _ => false

inductive ArgOk (P : Program) (t : TypeId) : List Leaf → AV → Prop where
  | row {ls : List Leaf} {xs : List AV} (h : isRow P t = true) (hl : xs.length = ls.length) (hx : ∀ (k : Nat) lf a, ls[k]? = some lf → xs[k]? = some a → LeafOk lf a) : ArgOk P t ls (.agg xs)
  | one {lf : Leaf} {a : AV} (h : isRow P t = false) (hx : LeafOk lf a) : ArgOk P t [lf] a

section
variable {H : Type} {enc : TypeId × Value → H} {P : Program} {w : World}

theorem open_arg {n base : Nat} {t : TypeId} {ls : List Leaf} {v : Value} {d : DataW H} {p : List MemPlace} (hl : leafs P n t = some ls) (hv : Value.okWide P w .any base t v) (h : DataW.Trod enc P w 0 (fun _ => true) true t v d p) :
    ∃ x, ArgOk P t ls x ∧ Rep ⟨fun _ => none, fun b => b < w.heap.size⟩ w x v := by
  obtain ⟨fuel, hf⟩ := h
  obtain ⟨hlen, xs, hxl, hx⟩ := open_leafs n t ls fuel _ _ hl hf
  have row : isRow P t = true → (∃ cs, v = .agg cs) → ∃ x, ArgOk P t ls x ∧ Rep ⟨fun _ => none, fun b => b < w.heap.size⟩ w x v := by
    rintro hr ⟨cs, rfl⟩
    simp only [Value.cells, Array.length_toList] at hlen
    refine ⟨.agg xs, .row hr hxl fun k lf a h1 h2 => ?_, .agg (by omega) fun k a u h1 h2 => ?_⟩
    · obtain ⟨a', v', g1, _, g3, _⟩ := hx k lf h1
      rw [h2] at g1; injection g1 with g1; subst g1; exact g3
    · have hk : k < ls.length := by have := (List.getElem?_eq_some_iff.1 h1).1; omega
      obtain ⟨a', v', g1, g2, g3, g4⟩ := hx k _ (List.getElem?_eq_getElem hk)
      rw [h1] at g1; injection g1 with g1; subst g1
      simp only [Value.cells, Array.getElem?_toList] at g2
      rw [h2] at g2; injection g2 with g2; subst g2; exact g4
  have one : isRow P t = false → v.cells.toList = [v] → ∃ lf, ls = [lf] → ∃ x, ArgOk P t ls x ∧ Rep ⟨fun _ => none, fun b => b < w.heap.size⟩ w x v := by
    intro hr hc
    cases ls with
    | nil => exact ⟨.bool, fun h => by cases h⟩
    | cons lf l =>
      refine ⟨lf, fun h => ?_⟩
      injection h with _ h
      subst h
      obtain ⟨a, u, g1, g2, g3, g4⟩ := hx 0 lf rfl
      rw [hc] at g2
      simp at g2
      subst g2
      exact ⟨a, .one hr g3, g4⟩
  cases n with
  | zero => cases hl
  | succ n =>
    simp only [leafs] at hl
    have fin : isRow P t = false → v.cells.toList = [v] → (∃ lf, ls = [lf]) → ∃ x, ArgOk P t ls x ∧ Rep ⟨fun _ => none, fun b => b < w.heap.size⟩ w x v := fun hr hc ⟨lf, e⟩ => by
      subst e
      obtain ⟨a, u, g1, g2, g3, g4⟩ := hx 0 lf rfl
      rw [hc] at g2
      simp at g2
      subst g2
      exact ⟨a, .one hr g3, g4⟩
    split at hl
    · rename_i k ht
      obtain ⟨z, rfl⟩ := okWide_int ht hv
      exact fin (by simp [isRow, ht]) rfl ⟨_, by injection hl with hl; exact hl.symm⟩
    · rename_i ht
      obtain ⟨z, rfl⟩ := okWide_bool ht hv
      exact fin (by simp [isRow, ht]) rfl ⟨_, by injection hl with hl; exact hl.symm⟩
    · rename_i ht
      obtain ⟨z, rfl⟩ := okWide_string ht hv
      exact fin (by simp [isRow, ht]) rfl ⟨_, by injection hl with hl; exact hl.symm⟩
    · rename_i e ht
      obtain ⟨a, l, c, rfl⟩ := okWide_slice ht hv
      refine fin (by simp [isRow, ht]) rfl ?_
      split at hl
      · split at hl
        · injection hl with hl; exact ⟨_, hl.symm⟩
        · cases hl
      · split at hl
        · split at hl
          · injection hl with hl; exact ⟨_, hl.symm⟩
          · cases hl
        · cases hl
    · rename_i m e ht
      refine row (by simp [isRow, ht]) ?_
      simp only [Value.okWide, ht] at hv
      obtain ⟨cs, h1, _⟩ := hv
      exact ⟨cs, h1⟩
    · rename_i fs ht
      obtain ⟨cs, h1, _⟩ := okWide_struct ht hv
      exact row (by simp [isRow, ht]) ⟨cs, h1⟩
    · cases hl

/-- all arguments -/
def lssOf (P : Program) : List TypeId → Option (List (List Leaf))
  | [] => some []
  | t :: ts => (leafs P 8 t).bind fun l => (lssOf P ts).map fun r => l :: r

def ArgsOk (P : Program) : List TypeId → List (List Leaf) → List AV → Prop
  | [], [], xs => xs = []
  | t :: ts, l :: ls, xs => ∃ x r, xs = x :: r ∧ ArgOk P t l x ∧ ArgsOk P ts ls r
  | _, _, _ => False

theorem open_args {base : Nat} : ∀ (ts : List TypeId) (lss : List (List Leaf)) (vs : List Value) (ds : List (DataW H)) (p : List MemPlace), lssOf P ts = some lss → DataW.TrodAll enc P w 0 (fun _ => true) true ts vs ds p →
    (∀ (j : Nat) t v, ts[j]? = some t → vs[j]? = some v → Value.okWide P w .any base t v) → ∃ xs, ArgsOk P ts lss xs ∧ xs.length = vs.length ∧ ∀ (k : Nat) a v, xs[k]? = some a → vs[k]? = some v → Rep ⟨fun _ => none, fun b => b < w.heap.size⟩ w a v
  | [], lss, vs, ds, p, hl, h, hv => by
    simp only [lssOf, Option.some.injEq] at hl
    subst hl
    obtain ⟨rfl, _, _⟩ := trodAll_nil h
    exact ⟨[], rfl, rfl, fun k a v h => by simp at h⟩
  | t :: ts, lss, vs, ds, p, hl, h, hv => by
    simp only [lssOf] at hl
    obtain ⟨l, hl1, hl⟩ := Option.bind_eq_some_iff.1 hl
    obtain ⟨r, hl2, rfl⟩ := Option.map_eq_some_iff.1 hl
    obtain ⟨v0, vs0, d0, ds0, p0, q0, rfl, rfl, rfl, h0, hr⟩ := trodAll_cons h
    obtain ⟨x, hx, hrep⟩ := open_arg hl1 (hv 0 t v0 rfl rfl) h0
    obtain ⟨xs, hxs, hlen, hreps⟩ := open_args ts r vs0 ds0 q0 hl2 hr fun j t v h1 h2 => hv (j + 1) t v (by simpa using h1) (by simpa using h2)
    refine ⟨x :: xs, ⟨x, xs, rfl, hx, hxs⟩, by simp [hlen], fun k a v h1 h2 => ?_⟩
    cases k with
    | zero => simp at h1 h2; subst h1 h2; exact hrep
    | succ k => simp at h1 h2; exact hreps k a v h1 h2

theorem reps_args {xs : List AV} {args : Array Value} (h1 : xs.length = args.toList.length) (h2 : ∀ (k : Nat) a v, xs[k]? = some a → args.toList[k]? = some v → Rep ⟨fun _ => none, fun b => b < w.heap.size⟩ w a v) : Reps ⟨fun _ => none, fun b => b < w.heap.size⟩ w xs args :=
  ⟨by simpa using h1.symm, fun k a v e1 e2 => h2 k a v e1 (by simpa using e2)⟩

def argsRead (P : Program) (ts : List TypeId) : Bool := ts.all fun t => P.readableRec t && decide (t < P.types.size)

theorem args_after {w' : World} (hl : laidOutB P = true) (hb : Below w.heap.size w w') : ∀ (ts : List TypeId) (vs : List Value) (ds : List (DataW H)) (p : List MemPlace), argsRead P ts = true → DataW.TrodAll enc P w 0 (fun _ => true) true ts vs ds p →
    DataW.TrodAll enc P w' 0 (fun b => decide (b < w.heap.size)) true ts vs ds p
  | [], vs, ds, p, _, h => by
    obtain ⟨rfl, rfl, rfl⟩ := trodAll_nil h
    exact trodAll_mk0
  | t :: ts, vs, ds, p, hr, h => by
    simp only [argsRead, List.all_cons, Bool.and_eq_true, decide_eq_true_eq] at hr
    obtain ⟨v0, vs0, d0, ds0, p0, q0, rfl, rfl, rfl, h0, h1⟩ := trodAll_cons h
    have lt0 : ∀ x ∈ p0, x.block < w.heap.size := by obtain ⟨m, hm⟩ := h0; exact DataW.trod_lt m _ _ _ hm
    exact trodAll_cons_mk (Below.trod hl hr.1.1 hr.1.2 h0 hb lt0) (args_after hl hb ts vs0 ds0 q0 hr.2 h1)
end

/-- leaves, one by one -/
def inv : List Leaf → List AV → Prop
  | [], xs => xs = []
  | .int k :: ls, xs => ∃ z r, xs = .val (.int k z) :: r ∧ (Lit.int k z).wf = true ∧ inv ls r
  | .bool :: ls, xs => ∃ b r, xs = .val (.bool b) :: r ∧ inv ls r
  | .str :: ls, xs => ∃ s r, xs = .val (.string s) :: r ∧ s.size ≤ maxLen ∧ inv ls r
  | .bytes :: ls, xs => ∃ l r, xs = .bytes l :: r ∧ inv ls r
  | .sl l :: ls, xs => ∃ n g r, xs = .view l.length n g :: r ∧ (∀ i, i < n → (g i).length = l.length ∧ ∀ (k : Nat) lf a, l[k]? = some lf → (g i)[k]? = some a → LeafOk lf a) ∧ inv ls r

theorem inv_of : ∀ (ls : List Leaf) (xs : List AV), xs.length = ls.length → (∀ (k : Nat) lf a, ls[k]? = some lf → xs[k]? = some a → LeafOk lf a) → inv ls xs
  | [], xs, h, _ => List.eq_nil_of_length_eq_zero h
  | lf :: ls, [], h, _ => by simp at h
  | lf :: ls, x :: xs, h, hx => by
    have ih := inv_of ls xs (by simpa using h) fun k lf a h1 h2 => hx (k + 1) lf a (by simpa using h1) (by simpa using h2)
    have h0 := hx 0 lf x rfl rfl
    cases h0 with
    | int hw => exact ⟨_, xs, rfl, hw, ih⟩
    | bool b => exact ⟨b, xs, rfl, ih⟩
    | str hs => exact ⟨_, xs, rfl, hs, ih⟩
    | bytes l => exact ⟨l, xs, rfl, ih⟩
    | sl h1 h2 => exact ⟨_, _, xs, rfl, fun i hi => ⟨h1 i hi, fun k lf a e1 e2 => h2 i k lf a hi e1 e2⟩, ih⟩

theorem ArgOk.row_inv {P : Program} {t : TypeId} {ls : List Leaf} {x : AV} (h : ArgOk P t ls x) (hr : isRow P t = true) : ∃ xs, x = .agg xs ∧ inv ls xs := by
  cases h with
  | row _ hl hx => exact ⟨_, rfl, inv_of _ _ hl hx⟩
  | one h _ => rw [hr] at h; cases h
theorem ArgOk.one_inv {P : Program} {t : TypeId} {lf : Leaf} {x : AV} (h : ArgOk P t [lf] x) (hr : isRow P t = false) : inv [lf] [x] := by
  cases h with
  | row h _ _ => rw [hr] at h; cases h
  | one _ hx =>
    refine inv_of _ _ rfl fun k l a h1 h2 => ?_
    cases k with
    | zero => simp at h1 h2; subst h1 h2; exact hx
    | succ k => simp at h1
end Go.Proofs.YtfofhpkafhpicaaGreatDoor
