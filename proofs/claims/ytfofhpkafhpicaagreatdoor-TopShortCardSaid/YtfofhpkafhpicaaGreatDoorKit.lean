/- Words for slices of bytes in memory, and the append onto a row of the call's own: plain theorems over any program. -/
import Derived.WalkKit
import Derived.WalkSpells
import Derived.WalkLawsBesides
import Derived.Maps.AppendAt
import Derived.Deep.AppendLies
import Derived.RegionTactic
import Derived.OwnWalk
import Derived.Lib.Hide
import Derived.Laws.BitsAllLaws
import Derived.BigQuiet
import Derived.Deep.QuietTactic
import Derived.Deep.RegionHeld3
import Derived.Deep.DeepCutAuto
import Derived.Deep.RegionWith
import Derived.Deep.RegionLaw
import Derived.Handy
import Derived.Laws.BytesArg
import Derived.Laws.Tables
import Derived.Deep.MidRow
import Derived.Lib.SlBytesConst
namespace Go.Proofs.YtfofhpkafhpicaaGreatDoor
open Go.RowKit

/-- a byte as a cell -/
def bv (x : UInt8) : Value := .int .u8 (x.toNat : Int)

/-- '[]byte' is type t, 'byte' type e -/
structure ByteTy (P : Program) (t e : TypeId) : Prop where
  ht : P.underlying t = some (.slice e)
  hi : (P.info? e).map (fun i => (i.zero, i.size, i.bytes)) = some (some (.int .u8 0), 1, 1)
  hb : P.underlying e = some (.int .u8)

/-- the slice (A, n, c) reads as the bytes xs; what it leads to lies in blocks from lo on, below hi -/
structure Rd (w : World) (lo hi : Nat) (A : Option Addr) (n c : Nat) (xs : List UInt8) : Prop where
  len : xs.length = n
  cap : n ≤ c
  max : c ≤ maxLen
  at_ : 0 < n → ∃ g o, A = some ⟨g, o, none⟩ ∧ lo ≤ g ∧ g < hi ∧ ∀ i x, xs[i]? = some x → w.cell? ⟨g, o + i, none⟩ = some (bv x)

/-- a row of the call's own that holds the bytes xs -/
def Own (w : World) (base e : Nat) (A : Option Addr) (n c : Nat) (xs : List UInt8) : Prop :=
  xs.length = n ∧ w.ownsRow base e 1 (.slice A n c) n (xs.map bv)

theorem add_zero_spot (g o i : Nat) : (⟨g, o, none⟩ : Addr).add i = ⟨g, o + i, none⟩ := by
  unfold Addr.add
  split
  · subst_vars; rfl
  · rfl

section
variable {w w' : World} {lo hi lo' hi' n c base e : Nat} {A : Option Addr} {xs : List UInt8}

theorem Rd.nil (w : World) (lo hi : Nat) : Rd w lo hi none 0 0 [] := ⟨rfl, Nat.le_refl _, Nat.zero_le _, fun h => absurd h (by omega)⟩

theorem Rd.keep (h : Rd w lo hi A n c xs) (hk : ∀ p : Addr, lo ≤ p.block → p.block < hi → w'.cell? p = w.cell? p) : Rd w' lo hi A n c xs :=
  ⟨h.len, h.cap, h.max, fun hn => by
    obtain ⟨g, o, e, h1, h2, hc⟩ := h.at_ hn
    exact ⟨g, o, e, h1, h2, fun i x hx => (hk _ h1 h2).trans (hc i x hx)⟩⟩

theorem Rd.wide (h : Rd w lo hi A n c xs) (h1 : lo' ≤ lo) (h2 : hi ≤ hi') : Rd w lo' hi' A n c xs :=
  ⟨h.len, h.cap, h.max, fun hn => by
    obtain ⟨g, o, e, h3, h4, hc⟩ := h.at_ hn
    exact ⟨g, o, e, by omega, by omega, hc⟩⟩

theorem Rd.below {B : Nat} (h : Rd w lo hi A n c xs) (hb : Below B w w') (hB : hi ≤ B) : Rd w' lo hi A n c xs :=
  h.keep fun _ _ h2 => hb.cell (by omega)

theorem Rd.grown {row : Option Nat} (h : Rd w lo hi A n c xs) (hg : w.grownBy w' row) (hB : hi ≤ w.heap.size) (hr : ∀ k, row = some k → k < lo ∨ hi ≤ k) : Rd w' lo hi A n c xs :=
  h.keep fun p h1 h2 => World.cell?_of_block (hg.block p.block (by omega) (fun e => by have := hr _ e.symm; omega))

theorem Rd.alloc (h : Rd w lo hi A n c xs) (hB : hi ≤ w.heap.size) (o : Obj) : Rd (w.alloc o) lo hi A n c xs := h.keep fun p _ h2 => World.cell?_alloc_lt w o p (by omega)

theorem Rd.setCell (h : Rd w lo hi A n c xs) {p : Addr} (hp : p.block < lo ∨ hi ≤ p.block) (u : Value) : Rd (w.setCell p u) lo hi A n c xs :=
  h.keep fun q h1 h2 => World.cell?_setCell_other w p q u (fun e => by subst e; omega)

theorem Rd.drew (h : Rd w lo hi A n c xs) : Rd w.drew lo hi A n c xs := ⟨h.len, h.cap, h.max, h.at_⟩
theorem Rd.drewN (h : Rd w lo hi A n c xs) (k : Nat) : Rd (w.drewN k) lo hi A n c xs := ⟨h.len, h.cap, h.max, h.at_⟩

theorem Rd.of_own (h : Own w base e A n c xs) : Rd w base w.heap.size A n c xs := by
  obtain ⟨hl, h⟩ := h
  rcases h.2 with ⟨hv, hn⟩ | ⟨g, cap, cur, hv, hb, hg, hnc, hm, hs, ht⟩
  · injection hv with h1 h2 h3
    subst h1 h3
    exact ⟨hl, by omega, by simp [maxLen], fun h => absurd h (by omega)⟩
  · injection hv with h1 h2 h3
    subst h3
    refine ⟨hl, hnc, hm, fun hn => ⟨g, 0, h1, hb, (Array.getElem?_eq_some_iff.1 hg).1, fun i x hx => ?_⟩⟩
    have := h.cells (g := g) (by subst h1; rfl) i (bv x) (by simp [hx])
    rwa [add_zero_spot] at this

theorem Own.of_row (hl : xs.length = n) (h : w.ownsRow base e 1 (.slice A n c) n (xs.map bv)) : Own w base e A n c xs := ⟨hl, h⟩

theorem Own.none_ (w : World) (base e : Nat) : Own w base e none 0 0 [] := ⟨rfl, World.ownsRow_nil w base e 1⟩

theorem Own.alloc (h : Own w base e A n c xs) (o : Obj) : Own (w.alloc o) base e A n c xs := ⟨h.1, h.2.alloc o⟩
theorem Own.drew (h : Own w base e A n c xs) : Own w.drew base e A n c xs := h
theorem Own.drewN (h : Own w base e A n c xs) (k : Nat) : Own (w.drewN k) base e A n c xs := h

theorem Own.lt (h : Own w base e A n c xs) : ∀ k, (Value.slice A n c).ownBlock = some k → base ≤ k ∧ k < w.heap.size := h.2.lt

theorem Own.below {B : Nat} (h : Own w base e A n c xs) (hb : Below B w w') (hB : w.heap.size ≤ B) : Own w' base e A n c xs := by
  refine ⟨h.1, h.2.1, ?_⟩
  rcases h.2.2 with hn | ⟨g, cap, cur, hv, hg, hh, r⟩
  · exact .inl hn
  · exact .inr ⟨g, cap, cur, hv, hg, by rw [hb.block g (Nat.lt_of_lt_of_le (Array.getElem?_eq_some_iff.1 hh).1 hB)]; exact hh, r⟩

theorem Own.grown {row : Option Nat} (h : Own w base e A n c xs) (hg : w.grownBy w' row) (hr : ∀ k, row = some k → k < base ∨ w.heap.size ≤ k) : Own w' base e A n c xs := by
  refine ⟨h.1, h.2.1, ?_⟩
  rcases h.2.2 with hn | ⟨g, cap, cur, hv, hb, hh, r⟩
  · exact .inl hn
  · have hlt := (Array.getElem?_eq_some_iff.1 hh).1
    exact .inr ⟨g, cap, cur, hv, hb, by rw [hg.block g hlt (fun e => by have := hr g e.symm; omega)]; exact hh, r⟩

theorem Own.rebase {b' : Nat} (h : Own w base e A n c xs) (hb : b' ≤ base) : Own w b' e A n c xs := by
  refine ⟨h.1, h.2.1, ?_⟩
  rcases h.2.2 with hn | ⟨g, cap, cur, hv, hg, r⟩
  · exact .inl hn
  · exact .inr ⟨g, cap, cur, hv, by omega, r⟩

/-- where a store into a row of the call's own finds its cell -/
theorem Own.place (h : Own w base e A n c xs) (hn : 0 < n) : ∃ g, A = some ⟨g, 0, none⟩ ∧ base ≤ g ∧ g < w.heap.size ∧
    (∀ i x, xs[i]? = some x → w.cell? ⟨g, i, none⟩ = some (bv x)) ∧ (∀ i, w.frozen? ⟨g, i, none⟩ = false) := by
  obtain ⟨hl, h⟩ := h
  rcases h.2 with ⟨hv, h0⟩ | ⟨g, cap, cur, hv, hb, hg, hnc, hm, hs, ht⟩
  · omega
  · injection hv with h1 h2 h3
    subst h1 h3
    refine ⟨g, rfl, hb, (Array.getElem?_eq_some_iff.1 hg).1, fun i x hx => ?_, fun i => h.frozenAt i⟩
    have := h.cells (g := g) rfl i (bv x) (by simp [hx])
    rwa [add_zero_spot, Nat.zero_add] at this

theorem Own.stored {g : Nat} (h : Own w base e (some ⟨g, 0, none⟩) n c xs) (j : Nat) (x : UInt8) :
    Own (w.setCell ⟨g, j, none⟩ (bv x)) base e (some ⟨g, 0, none⟩) n c (xs.set j x) := by
  refine ⟨by simpa using h.1, ?_⟩
  rw [List.map_set]
  exact (h.2.stored j (bv x)).1

theorem Own.far {p : Addr} (h : Own w base e A n c xs) (hp : p.block < base ∨ w.heap.size ≤ p.block) (u : Value) : Own (w.setCell p u) base e A n c xs := by
  refine ⟨h.1, h.2.1, ?_⟩
  rcases h.2.2 with hn | ⟨g, cap, cur, hv, hb, hh, r⟩
  · exact .inl hn
  · have hlt := (Array.getElem?_eq_some_iff.1 hh).1
    exact .inr ⟨g, cap, cur, hv, hb, by rw [Below.heap_setCell _ _ _ _ (by omega)]; exact hh, r⟩
end

section
variable {P : Program} (w : World)

theorem bv_one (news : List UInt8) : ∀ u ∈ news.map bv, u.oneCell' = true := by
  intro u hu
  simp only [List.mem_map] at hu
  obtain ⟨x, _, rfl⟩ := hu
  rfl

theorem own_form {w : World} {base e n : Nat} {v : Value} {xs : List Value} (h : w.ownsRow base e 1 v n xs) : ∃ A c, v = .slice A n c := by
  rcases h.2 with ⟨hv, hn⟩ | ⟨g, cap, cur, hv, _⟩
  · exact ⟨none, 0, by rw [hv, hn]⟩
  · exact ⟨_, _, hv⟩

theorem run_appB {t e : TypeId} (T : ByteTy P t e) (ty : TypeId) (base : Nat) (A : Option Addr) (n c : Nat) (xs : List UInt8) (hown : Own w base e A n c xs)
    (lo hi : Nat) (A1 : Option Addr) (m c1 : Nat) (news : List UInt8) (hr : Rd w lo hi A1 m c1 news) (h63 : n + m ≤ 1000000000) (hbase : base ≤ w.heap.size) :
    ∃ A' c' w', (Builtin.append_ #[t, t] ty #[.slice A n c, .slice A1 m c1]).run P w = .ok (.slice A' (n + m) c') w' ∧ Own w' base e A' (n + m) c' (xs ++ news) ∧
      w.grownBy w' (Value.slice A n c).ownBlock ∧ ((Value.slice A' (n + m) c').ownBlock = (Value.slice A n c).ownBlock ∨ (Value.slice A' (n + m) c').ownBlock = some w.heap.size) := by
  obtain ⟨i, hi', hz0, hz1, hz2⟩ := info_parts T.hi
  have hll : (xs ++ news).length = n + m := by rw [List.length_append, hown.1, hr.len]
  by_cases h0 : m = 0
  · subst h0
    have hn : news = [] := List.eq_nil_of_length_eq_zero hr.len
    subst hn
    refine ⟨A, c, w, ?_, by simpa using hown, World.grownBy.refl w _, .inl rfl⟩
    rcases hown.2.2 with ⟨hv, h1⟩ | ⟨g, cap, cur, hv, _, _, hnc, _⟩
    · injection hv with h2 h3 h4
      subst h2 h3 h4
      rcases A1 with _ | ad <;> simp [Builtin.append_, run_underlying T.ht, sizeOf, typeInfo, hi', Builtin.lenOf, Builtin.firstCells, loadCells, loadCellsFrom]
    · injection hv with h2 h3 h4
      subst h2 h4
      rcases A1 with _ | ad <;> simp [Builtin.append_, run_underlying T.ht, sizeOf, typeInfo, hi', Builtin.lenOf, Builtin.firstCells, loadCells, loadCellsFrom, hnc, storeCells]
  · obtain ⟨g, o, rfl, _, _, hc⟩ := hr.at_ (by omega)
    obtain ⟨v', w', hrun, h2, h3, _, h5⟩ := run_append_own_at (P := P) w base t ty e i (.int .u8 0) 1 1 T.ht hi' hz0 hz1 hz2 rfl (by decide) _ n _ hown.2 ⟨g, o, none⟩ m c1 (news.map bv) (by simp [hr.len])
      (by
        intro j u hu
        rw [add_zero_spot]
        simp only [List.getElem?_map, Option.map_eq_some_iff] at hu
        obtain ⟨x, hx, rfl⟩ := hu
        exact hc j x hx) (bv_one news) (by simp only [maxLen]; omega) (by omega) hbase
    obtain ⟨A', c', rfl⟩ := own_form h2
    exact ⟨A', c', w', hrun, ⟨hll, by rw [List.map_append]; exact h2⟩, h3, h5⟩

theorem wp_appB {o : Oper} {a : Act} {K : Act → World → Prop} {Q : Exit → Act → World → Prop} (s x : Operand) {t e : TypeId} (T : ByteTy P t e)
    (ho : o.op = .call { callee := .builtin .append, args := #[s, x], argTypes := #[t, t] })
    (base : Nat) (A : Option Addr) (n c : Nat) (xs : List UInt8) (hs : a.eval s = .slice A n c) (hown : Own w base e A n c xs)
    (lo hi : Nat) (A1 : Option Addr) (m c1 : Nat) (news : List UInt8) (hx : a.eval x = .slice A1 m c1) (hr : Rd w lo hi A1 m c1 news)
    (h63 : n + m ≤ 1000000000) (hbase : base ≤ w.heap.size)
    (h : ∀ A' c' w', Own w' base e A' (n + m) c' (xs ++ news) → w.grownBy w' (Value.slice A n c).ownBlock →
      ((Value.slice A' (n + m) c').ownBlock = (Value.slice A n c).ownBlock ∨ (Value.slice A' (n + m) c').ownBlock = some w.heap.size) → K (a.put o.dst (.slice A' (n + m) c')) w') : o.wp P a w K Q := by
  obtain ⟨A', c', w', hrun, h2, h3, h4⟩ := run_appB (P := P) w T o.type base A n c xs hown lo hi A1 m c1 news hr h63 hbase
  unfold Oper.wp execOp
  simp only [ho, resolve, invoke, builtin, Sem.run_bind, Sem.run_pure, Result.andThen_ok, List.map_toArray, List.map_cons, List.map_nil, hs, hx, hrun]
  exact h A' c' w' h2 h3 h4

theorem wpList_appB {ops : Array Oper} {rest : List Oper} {o : Oper} {a : Act} {Q : Exit → Act → World → Prop} (hgd : o.guard = none) (s x : Operand) {t e : TypeId} (T : ByteTy P t e)
    (ho : o.op = .call { callee := .builtin .append, args := #[s, x], argTypes := #[t, t] })
    (base : Nat) (A : Option Addr) (n c : Nat) (xs : List UInt8) (hs : a.eval s = .slice A n c) (hown : Own w base e A n c xs)
    (lo hi : Nat) (A1 : Option Addr) (m c1 : Nat) (news : List UInt8) (hx : a.eval x = .slice A1 m c1) (hr : Rd w lo hi A1 m c1 news)
    (h63 : n + m ≤ 1000000000) (hbase : base ≤ w.heap.size)
    (h : ∀ A' c' w', Own w' base e A' (n + m) c' (xs ++ news) → w.grownBy w' (Value.slice A n c).ownBlock →
      ((Value.slice A' (n + m) c').ownBlock = (Value.slice A n c).ownBlock ∨ (Value.slice A' (n + m) c').ownBlock = some w.heap.size) → wpList P ops Q rest (a.put o.dst (.slice A' (n + m) c')) w') : wpList P ops Q (o :: rest) a w :=
  wpList_plain hgd fun _ hK => wp_appB w s x T ho base A n c xs hs hown lo hi A1 m c1 news hx hr h63 hbase fun A' c' w' h2 h3 h4 => hK _ _ (h A' c' w' h2 h3 h4)

theorem step_appB {ops : Array Oper} {o : Oper} {a : Act} {K : Act → World → Prop} {Q : Exit → Act → World → Prop} {E : Prop} (hgd : o.guard = none) (s x : Operand) {t e : TypeId} (T : ByteTy P t e)
    (ho : o.op = .call { callee := .builtin .append, args := #[s, x], argTypes := #[t, t] })
    (base : Nat) (A : Option Addr) (n c : Nat) (xs : List UInt8) (hs : a.eval s = .slice A n c) (hown : Own w base e A n c xs)
    (lo hi : Nat) (A1 : Option Addr) (m c1 : Nat) (news : List UInt8) (hx : a.eval x = .slice A1 m c1) (hr : Rd w lo hi A1 m c1 news)
    (h63 : n + m ≤ 1000000000) (hbase : base ≤ w.heap.size)
    (h : ∀ A' c' w', Own w' base e A' (n + m) c' (xs ++ news) → w.grownBy w' (Value.slice A n c).ownBlock →
      ((Value.slice A' (n + m) c').ownBlock = (Value.slice A n c).ownBlock ∨ (Value.slice A' (n + m) c').ownBlock = some w.heap.size) → K (a.put o.dst (.slice A' (n + m) c')) w') :
    if Region.wanted o (yielded ops a.tmps) = true then Oper.wp P o a w K Q else E := by
  have hw : Region.wanted o (yielded ops a.tmps) = true := by simp [Region.wanted, hgd]
  rw [if_pos hw]
  exact wp_appB w s x T ho base A n c xs hs hown lo hi A1 m c1 news hx hr h63 hbase h

theorem grown_below {B : Nat} {w0 w w' : World} {v : Value} (h : Below B w0 w) (hg : w.grownBy w' v.ownBlock) (hB : B ≤ w.heap.size) (hv : ∀ k, v.ownBlock = some k → B ≤ k) : Below B w0 w' :=
  h.grown hg hB hv
end

/-- an own row made by a literal of bytes -/
theorem Own.lit (w : World) (base e : Nat) (cs : Array Value) (xs : List UInt8) (hb : base ≤ w.heap.size) (hx : cs.toList = xs.map bv) (hm : xs.length ≤ 1000000000) {g n : Nat} (hg : w.heap.size = g) (hn : xs.length = n) :
    Own (w.alloc (.cells cs e)) base e (some ⟨g, 0, none⟩) n n xs := by
  subst hg
  subst hn
  have hs : cs.size = xs.length := by rw [← Array.length_toList, hx, List.length_map]
  have h := World.ownsRow_lit (base := base) (e := e) (size := 1) w cs xs.length hb (by simp only [maxLen]; omega) (by omega)
  rw [hx] at h
  exact ⟨rfl, h⟩

theorem Rd.lit (w : World) (e : Nat) (cs : Array Value) (xs : List UInt8) (hx : cs.toList = xs.map bv) (hm : xs.length ≤ 1000000000) {g n : Nat} (hg : w.heap.size = g) (hn : xs.length = n) :
    Rd (w.alloc (.cells cs e)) g (g + 1) (some ⟨g, 0, none⟩) n n xs := by
  have h := Rd.of_own (Own.lit w w.heap.size e cs xs (Nat.le_refl _) hx hm hg hn)
  subst hg
  simpa using h

/-- the block of a row of the call's own, behind an append onto one -/
theorem own_at {B : Nat} {v v' : Value} {k : Nat} (h : v'.ownBlock = v.ownBlock ∨ v'.ownBlock = some k) (hk : B ≤ k) (hv : ∀ j, v.ownBlock = some j → B ≤ j) : ∀ j, v'.ownBlock = some j → B ≤ j := by
  intro j hj
  rcases h with h | h
  · exact hv j (by rw [← h]; exact hj)
  · rw [h] at hj
    injection hj with hj
    omega

/-! ### a piece of a slice -/

theorem Rd.cut {w : World} {lo hi n c : Nat} {A : Option Addr} {xs : List UInt8} (h : Rd w lo hi A n c xs) (l u m : Nat) (h1 : l ≤ u) (h2 : u ≤ n) (h3 : u ≤ m) (h4 : m ≤ c) :
    Rd w lo hi (if m = l then A else A.map (·.add (l * 1))) (u - l) (m - l) ((xs.take u).drop l) := by
  have hm := h.max
  refine ⟨by rw [List.length_drop, List.length_take, h.len]; omega, by omega, by omega, fun hn => ?_⟩
  obtain ⟨g, o, rfl, a, b, hc⟩ := h.at_ (by omega)
  rw [if_neg (by omega)]
  refine ⟨g, o + l, by simp [add_zero_spot], a, b, fun i x hx => ?_⟩
  rw [List.getElem?_drop] at hx
  have hx' : xs[l + i]? = some x := by
    rw [List.getElem?_take] at hx
    split at hx
    · exact hx
    · cases hx
  have := hc _ _ hx'
  rwa [Nat.add_assoc]

/-- a slice expression's bound: left out, or a number -/
def Bound (a : Act) (b : Option Operand) (dflt v : Nat) : Prop :=
  match b with
  | none => v = dflt
  | some x => ∃ k z, a.eval x = .int k z ∧ z = (v : Int)

theorem run_cut {P : Program} (w : World) {t e : TypeId} (T : ByteTy P t e) {a : Act} {A : Option Addr} {n c : Nat} {low high max : Option Operand} {l u m : Nat}
    (hl : Bound a low 0 l) (hu : Bound a high n u) (hm : Bound a max c m) (hx : max ≠ none → high ≠ none) (h1 : l ≤ u) (h2 : u ≤ n) (h3 : u ≤ m) (h4 : m ≤ c) :
    (Instr.sliceAt t (.slice A n c) (low.map a.eval) (high.map a.eval) (max.map a.eval)).run P w = .ok (.slice (if m = l then A else A.map (·.add (l * 1))) (u - l) (m - l)) w := by
  obtain ⟨i, hi', hz0, hz1, hz2⟩ := info_parts T.hi
  have b1 : ∀ (k : IntKind) (v y : Nat) (code : BoundsCode), v ≤ y → (Instr.sliceBound (.int k (v : Int)) y code).run P w = .ok v w := fun k v y code hv => by
    rw [run_sliceBound w k _ y code (by omega) (by omega)]; rfl
  rcases low with _ | low <;> rcases high with _ | high <;> rcases max with _ | max <;> simp only [Bound] at hl hu hm <;>
    first
    | (subst hl; subst hu; subst hm; simp [Instr.sliceAt, Instr.slice, Instr.sliceBounds, run_underlying T.ht, sizeOf, typeInfo, hi'])
    | (obtain ⟨k2, z2, e2, rfl⟩ := hu; obtain ⟨k3, z3, e3, rfl⟩ := hm; subst hl; simp [Instr.sliceAt, Instr.slice, Instr.sliceBounds, run_underlying T.ht, sizeOf, typeInfo, hi', e2, e3, b1 _ _ _ _ h3, b1 _ _ _ _ h4])
    | (obtain ⟨k2, z2, e2, rfl⟩ := hu; subst hl; subst hm; simp [Instr.sliceAt, Instr.slice, Instr.sliceBounds, run_underlying T.ht, sizeOf, typeInfo, hi', e2, b1 _ _ _ _ h3])
    | (obtain ⟨k1, z1, e1, rfl⟩ := hl; subst hu; subst hm; simp [Instr.sliceAt, Instr.slice, Instr.sliceBounds, run_underlying T.ht, sizeOf, typeInfo, hi', hz1, e1, b1 _ _ _ _ h1])
    | (obtain ⟨k1, z1, e1, rfl⟩ := hl; obtain ⟨k2, z2, e2, rfl⟩ := hu; subst hm; simp [Instr.sliceAt, Instr.slice, Instr.sliceBounds, run_underlying T.ht, sizeOf, typeInfo, hi', hz1, e1, e2, b1 _ _ _ _ h1, b1 _ _ _ _ h3])
    | (obtain ⟨k1, z1, e1, rfl⟩ := hl; obtain ⟨k2, z2, e2, rfl⟩ := hu; obtain ⟨k3, z3, e3, rfl⟩ := hm; simp [Instr.sliceAt, Instr.slice, Instr.sliceBounds, run_underlying T.ht, sizeOf, typeInfo, hi', hz1, e1, e2, e3, b1 _ _ _ _ h1, b1 _ _ _ _ h3, b1 _ _ _ _ h4])
    | (exfalso; exact hx (Option.some_ne_none _) rfl)

theorem wp_cut {P : Program} {w : World} {o : Oper} {a : Act} {K : Act → World → Prop} {Q : Exit → Act → World → Prop} {t e : TypeId} (T : ByteTy P t e) (x : Operand) (low high max : Option Operand)
    (ho : o.op = .slice t x low high max) {A : Option Addr} {n c lo hi : Nat} {xs : List UInt8} (hx : a.eval x = .slice A n c) (hr : Rd w lo hi A n c xs) (l u m : Nat)
    (hl : Bound a low 0 l) (hu : Bound a high n u) (hm : Bound a max c m) (hmx : max ≠ none → high ≠ none) (h1 : l ≤ u) (h2 : u ≤ n) (h3 : u ≤ m) (h4 : m ≤ c)
    (h : ∀ A', Rd w lo hi A' (u - l) (m - l) ((xs.take u).drop l) → K (a.put o.dst (.slice A' (u - l) (m - l))) w) : o.wp P a w K Q := by
  have hrun := run_cut (P := P) w T (A := A) hl hu hm hmx h1 h2 h3 h4
  unfold Oper.wp execOp
  simp only [ho, hx, Sem.run_bind, Sem.run_pure, Result.andThen_ok, hrun]
  exact h _ (hr.cut l u m h1 h2 h3 h4)

theorem wpList_cut {P : Program} {w : World} {ops : Array Oper} {rest : List Oper} {o : Oper} {a : Act} {Q : Exit → Act → World → Prop} (hgd : o.guard = none) {t e : TypeId} (T : ByteTy P t e) (x : Operand) (low high max : Option Operand)
    (ho : o.op = .slice t x low high max) {A : Option Addr} {n c lo hi : Nat} {xs : List UInt8} (hx : a.eval x = .slice A n c) (hr : Rd w lo hi A n c xs) (l u m : Nat)
    (hl : Bound a low 0 l) (hu : Bound a high n u) (hm : Bound a max c m) (hmx : max ≠ none → high ≠ none) (h1 : l ≤ u) (h2 : u ≤ n) (h3 : u ≤ m) (h4 : m ≤ c)
    (h : ∀ A', Rd w lo hi A' (u - l) (m - l) ((xs.take u).drop l) → wpList P ops Q rest (a.put o.dst (.slice A' (u - l) (m - l))) w) : wpList P ops Q (o :: rest) a w :=
  wpList_plain hgd fun _ hK => wp_cut T x low high max ho hx hr l u m hl hu hm hmx h1 h2 h3 h4 fun A' h' => hK _ _ (h A' h')

/-! ### the string of a slice of bytes -/
theorem run_conv {P : Program} (w : World) {t e dst : TypeId} (T : ByteTy P t e) (hd : P.underlying dst = some .string) {lo hi n c : Nat} {A : Option Addr} {xs : List UInt8} (h : Rd w lo hi A n c xs) :
    (convert t dst (.slice A n c)).run P w = .ok (.string ⟨xs.toArray⟩) w := by
  rcases Nat.eq_zero_or_pos n with h0 | h0
  · have hx : xs = [] := List.eq_nil_of_length_eq_zero (h.len.trans h0)
    subst hx
    subst h0
    rcases A with _ | ad
    · rw [run_convert_bytes_nil (P := P) w t e T.ht T.hb 0 c dst hd]
      rfl
    · rw [run_convert_bytes_string w t dst e _ 0 c T.ht T.hb hd, run_bytesToString w ad 0 c [] (by simp [loadCells, loadCellsFrom])]
      rfl
  · obtain ⟨g, o, rfl, _, _, hc⟩ := h.at_ h0
    have hlen := h.len
    have := run_convert_bytes_arg (P := P) w t e T.ht T.hb g o n c (xs.map fun x => (x.toNat : Int)) (by simpa using hlen) (fun i hi => by
      have hi' : i < xs.length := by omega
      have := hc i xs[i] (List.getElem?_eq_getElem hi')
      rw [this]
      simp [bv, List.getD, List.getElem?_eq_getElem hi']) dst hd
    rw [this]
    have hid : ((fun n : Int => UInt8.ofNat n.toNat) ∘ fun x : UInt8 => (x.toNat : Int)) = id := by
      funext x
      simp
    simp [strOfNums, hid]

theorem conv2 {P : Program} {w : World} {t e dst : TypeId} (T : ByteTy P t e) (hd : P.underlying dst = some .string) {lo hi n c : Nat} {A : Option Addr} {xs : List UInt8} (h : Rd w lo hi A n c xs) (hhi : hi ≤ w.heap.size) :
    ∀ o1 o2, (convert t dst (.slice A n c)).run P ((w.alloc o1).alloc o2) = .ok (.string ⟨xs.toArray⟩) ((w.alloc o1).alloc o2) :=
  fun o1 o2 => run_conv _ T hd ((h.alloc hhi o1).alloc (by simp; omega) o2)

/-- the two Bools of a test, where it says yes and where it says no -/
theorem beq_yes {a b : Int} (h : a = b) : (a == b) = true := by simpa using h
theorem bne_yes {a b : Int} (h : a = b) : (a != b) = false := by simpa using h
theorem beq_no {a b : Int} (h : a ≠ b) : (a == b) = false := by simpa using h
theorem bne_no {a b : Int} (h : a ≠ b) : (a != b) = true := by simpa using h

/-! ### a block that is known whole -/
/-- block g is the cells cs of type t, none of them frozen -/
def Blk (w : World) (g : Nat) (t : TypeId) (cs : Array Value) : Prop := w.heap[g]? = some (.cells cs t (0, 0))

section
variable {w w' : World} {g : Nat} {t : TypeId} {cs : Array Value}
theorem Blk.lt (h : Blk w g t cs) : g < w.heap.size := (Array.getElem?_eq_some_iff.1 h).1
theorem Blk.cell (h : Blk w g t cs) : ∀ i, w.cell? ⟨g, i, none⟩ = cs[i]? := fun i => by simp [World.cell?, show w.heap[g]? = _ from h]
theorem Blk.frozen (h : Blk w g t cs) : ∀ i, w.frozen? ⟨g, i, none⟩ = false := fun i => by simp [World.frozen?, show w.heap[g]? = _ from h]
theorem Blk.new (w : World) (t : TypeId) (cs : Array Value) {g : Nat} (hg : w.heap.size = g) : Blk (w.alloc (.cells cs t)) g t cs := by subst hg; exact heap_alloc_new w _
theorem Blk.alloc (h : Blk w g t cs) (o : Obj) : Blk (w.alloc o) g t cs := (Below.heap_alloc w o g h.lt).trans h
theorem Blk.set_ (h : Blk w g t cs) (i : Nat) (u : Value) : Blk (w.setCell ⟨g, i, none⟩ u) g t (cs.setIfInBounds i u) := by
  have h' : w.heap[g]? = _ := h
  unfold Blk
  simp [World.setCell, Array.getElem?_modify, h']
theorem Blk.far (h : Blk w g t cs) {p : Addr} (hp : g ≠ p.block) (u : Value) : Blk (w.setCell p u) g t cs := (Below.heap_setCell w p u g hp).trans h
theorem Blk.below {B : Nat} (h : Blk w g t cs) (hb : Below B w w') (hg : g < B) : Blk w' g t cs := (hb.block g hg).trans h
theorem Blk.grown {row : Option Nat} (h : Blk w g t cs) (hb : w.grownBy w' row) (hg : some g ≠ row) : Blk w' g t cs := (hb.block g h.lt hg).trans h
theorem Blk.drewN (h : Blk w g t cs) (n : Nat) : Blk (w.drewN n) g t cs := h
end

theorem below_drewN {B : Nat} {a w : World} (h : Below B a w) (n : Nat) : Below B a (w.drewN n) := ⟨h.os, h.tape, h.output, h.size, h.block⟩
theorem Blk.cells2 {w : World} {g : Nat} {t : TypeId} {v0 v1 : Value} (h : Blk w g t #[v0, v1]) :
    w.cell? ⟨g, 0, none⟩ = some v0 ∧ w.cell? ⟨g, 1, none⟩ = some v1 ∧ (∀ i, w.frozen? ⟨g, i, none⟩ = false) :=
  ⟨h.cell 0, h.cell 1, h.frozen⟩
theorem Blk.cells3 {w : World} {g : Nat} {t : TypeId} {v0 v1 v2 : Value} (h : Blk w g t #[v0, v1, v2]) :
    w.cell? ⟨g, 0, none⟩ = some v0 ∧ w.cell? ⟨g, 1, none⟩ = some v1 ∧ w.cell? ⟨g, 2, none⟩ = some v2 ∧ (∀ i, w.frozen? ⟨g, i, none⟩ = false) :=
  ⟨h.cell 0, h.cell 1, h.cell 2, h.frozen⟩
theorem Blk.cells4 {w : World} {g : Nat} {t : TypeId} {v0 v1 v2 v3 : Value} (h : Blk w g t #[v0, v1, v2, v3]) :
    w.cell? ⟨g, 0, none⟩ = some v0 ∧ w.cell? ⟨g, 1, none⟩ = some v1 ∧ w.cell? ⟨g, 2, none⟩ = some v2 ∧ w.cell? ⟨g, 3, none⟩ = some v3 ∧ (∀ i, w.frozen? ⟨g, i, none⟩ = false) :=
  ⟨h.cell 0, h.cell 1, h.cell 2, h.cell 3, h.frozen⟩
theorem Blk.cells5 {w : World} {g : Nat} {t : TypeId} {v0 v1 v2 v3 v4 : Value} (h : Blk w g t #[v0, v1, v2, v3, v4]) :
    w.cell? ⟨g, 0, none⟩ = some v0 ∧ w.cell? ⟨g, 1, none⟩ = some v1 ∧ w.cell? ⟨g, 2, none⟩ = some v2 ∧ w.cell? ⟨g, 3, none⟩ = some v3 ∧ w.cell? ⟨g, 4, none⟩ = some v4 ∧ (∀ i, w.frozen? ⟨g, i, none⟩ = false) :=
  ⟨h.cell 0, h.cell 1, h.cell 2, h.cell 3, h.cell 4, h.frozen⟩
theorem Blk.cells6 {w : World} {g : Nat} {t : TypeId} {v0 v1 v2 v3 v4 v5 : Value} (h : Blk w g t #[v0, v1, v2, v3, v4, v5]) :
    w.cell? ⟨g, 0, none⟩ = some v0 ∧ w.cell? ⟨g, 1, none⟩ = some v1 ∧ w.cell? ⟨g, 2, none⟩ = some v2 ∧ w.cell? ⟨g, 3, none⟩ = some v3 ∧ w.cell? ⟨g, 4, none⟩ = some v4 ∧ w.cell? ⟨g, 5, none⟩ = some v5 ∧ (∀ i, w.frozen? ⟨g, i, none⟩ = false) :=
  ⟨h.cell 0, h.cell 1, h.cell 2, h.cell 3, h.cell 4, h.cell 5, h.frozen⟩
theorem Blk.cells7 {w : World} {g : Nat} {t : TypeId} {v0 v1 v2 v3 v4 v5 v6 : Value} (h : Blk w g t #[v0, v1, v2, v3, v4, v5, v6]) :
    w.cell? ⟨g, 0, none⟩ = some v0 ∧ w.cell? ⟨g, 1, none⟩ = some v1 ∧ w.cell? ⟨g, 2, none⟩ = some v2 ∧ w.cell? ⟨g, 3, none⟩ = some v3 ∧ w.cell? ⟨g, 4, none⟩ = some v4 ∧ w.cell? ⟨g, 5, none⟩ = some v5 ∧ w.cell? ⟨g, 6, none⟩ = some v6 ∧ (∀ i, w.frozen? ⟨g, i, none⟩ = false) :=
  ⟨h.cell 0, h.cell 1, h.cell 2, h.cell 3, h.cell 4, h.cell 5, h.cell 6, h.frozen⟩
theorem Blk.cells9 {w : World} {g : Nat} {t : TypeId} {v0 v1 v2 v3 v4 v5 v6 v7 v8 : Value} (h : Blk w g t #[v0, v1, v2, v3, v4, v5, v6, v7, v8]) :
    w.cell? ⟨g, 0, none⟩ = some v0 ∧ w.cell? ⟨g, 1, none⟩ = some v1 ∧ w.cell? ⟨g, 2, none⟩ = some v2 ∧ w.cell? ⟨g, 3, none⟩ = some v3 ∧ w.cell? ⟨g, 4, none⟩ = some v4 ∧ w.cell? ⟨g, 5, none⟩ = some v5 ∧ w.cell? ⟨g, 6, none⟩ = some v6 ∧ w.cell? ⟨g, 7, none⟩ = some v7 ∧ w.cell? ⟨g, 8, none⟩ = some v8 ∧ (∀ i, w.frozen? ⟨g, i, none⟩ = false) :=
  ⟨h.cell 0, h.cell 1, h.cell 2, h.cell 3, h.cell 4, h.cell 5, h.cell 6, h.cell 7, h.cell 8, h.frozen⟩
theorem Blk.cells16 {w : World} {g : Nat} {t : TypeId} {v0 v1 v2 v3 v4 v5 v6 v7 v8 v9 v10 v11 v12 v13 v14 v15 : Value} (h : Blk w g t #[v0, v1, v2, v3, v4, v5, v6, v7, v8, v9, v10, v11, v12, v13, v14, v15]) :
    w.cell? ⟨g, 0, none⟩ = some v0 ∧ w.cell? ⟨g, 1, none⟩ = some v1 ∧ w.cell? ⟨g, 2, none⟩ = some v2 ∧ w.cell? ⟨g, 3, none⟩ = some v3 ∧ w.cell? ⟨g, 4, none⟩ = some v4 ∧ w.cell? ⟨g, 5, none⟩ = some v5 ∧ w.cell? ⟨g, 6, none⟩ = some v6 ∧ w.cell? ⟨g, 7, none⟩ = some v7 ∧ w.cell? ⟨g, 8, none⟩ = some v8 ∧ w.cell? ⟨g, 9, none⟩ = some v9 ∧ w.cell? ⟨g, 10, none⟩ = some v10 ∧ w.cell? ⟨g, 11, none⟩ = some v11 ∧ w.cell? ⟨g, 12, none⟩ = some v12 ∧ w.cell? ⟨g, 13, none⟩ = some v13 ∧ w.cell? ⟨g, 14, none⟩ = some v14 ∧ w.cell? ⟨g, 15, none⟩ = some v15 ∧ (∀ i, w.frozen? ⟨g, i, none⟩ = false) :=
  ⟨h.cell 0, h.cell 1, h.cell 2, h.cell 3, h.cell 4, h.cell 5, h.cell 6, h.cell 7, h.cell 8, h.cell 9, h.cell 10, h.cell 11, h.cell 12, h.cell 13, h.cell 14, h.cell 15, h.frozen⟩

/-! ### only one block has turned -/
structure Kp (b : Nat) (w w' : World) : Prop where
  os : w'.os = w.os
  tape : w'.tape = w.tape
  output : w'.output = w.output
  size : w'.heap.size = w.heap.size
  block : ∀ k, k ≠ b → w'.heap[k]? = w.heap[k]?

theorem Kp.refl (b : Nat) (w : World) : Kp b w w := ⟨rfl, rfl, rfl, rfl, fun _ _ => rfl⟩
theorem Kp.set {b : Nat} {a w : World} (h : Kp b a w) (i : Nat) (u : Value) : Kp b a (w.setCell ⟨b, i, none⟩ u) :=
  ⟨h.os, h.tape, h.output, by simpa using h.size, fun k hk => (Below.heap_setCell w _ u k hk).trans (h.block k hk)⟩
theorem Rd.kp {w w' : World} {lo hi n c b : Nat} {A : Option Addr} {xs : List UInt8} (h : Rd w lo hi A n c xs) (k : Kp b w w') (hb : b < lo ∨ hi ≤ b) : Rd w' lo hi A n c xs :=
  h.keep fun p h1 h2 => World.cell?_of_block (k.block p.block (by omega))
theorem below_kp {B b : Nat} {a w w' : World} (h : Below B a w) (k : Kp b w w') (hb : B ≤ b) : Below B a w' :=
  ⟨k.os.trans h.os, k.tape.trans h.tape, k.output.trans h.output, by rw [k.size]; exact h.size, fun i hi => (k.block i (by omega)).trans (h.block i hi)⟩
theorem Blk.kp {w w' : World} {g b : Nat} {t : TypeId} {cs : Array Value} (h : Blk w g t cs) (k : Kp b w w') (hb : g ≠ b) : Blk w' g t cs := (k.block g hb).trans h
theorem kp1 {b : Nat} {w : World} {v0 : Value} : Kp b w (w.setCell ⟨b, 0, none⟩ v0) := ((Kp.refl b w).set 0 v0)
theorem kp2 {b : Nat} {w : World} {v0 v1 : Value} : Kp b w ((w.setCell ⟨b, 0, none⟩ v0).setCell ⟨b, 1, none⟩ v1) := (((Kp.refl b w).set 0 v0).set 1 v1)
theorem kp3 {b : Nat} {w : World} {v0 v1 v2 : Value} : Kp b w (((w.setCell ⟨b, 0, none⟩ v0).setCell ⟨b, 1, none⟩ v1).setCell ⟨b, 2, none⟩ v2) := ((((Kp.refl b w).set 0 v0).set 1 v1).set 2 v2)
theorem kp4 {b : Nat} {w : World} {v0 v1 v2 v3 : Value} : Kp b w ((((w.setCell ⟨b, 0, none⟩ v0).setCell ⟨b, 1, none⟩ v1).setCell ⟨b, 2, none⟩ v2).setCell ⟨b, 3, none⟩ v3) := (((((Kp.refl b w).set 0 v0).set 1 v1).set 2 v2).set 3 v3)
theorem kp5 {b : Nat} {w : World} {v0 v1 v2 v3 v4 : Value} : Kp b w (((((w.setCell ⟨b, 0, none⟩ v0).setCell ⟨b, 1, none⟩ v1).setCell ⟨b, 2, none⟩ v2).setCell ⟨b, 3, none⟩ v3).setCell ⟨b, 4, none⟩ v4) := ((((((Kp.refl b w).set 0 v0).set 1 v1).set 2 v2).set 3 v3).set 4 v4)
theorem kp9 {b : Nat} {w : World} {v0 v1 v2 v3 v4 v5 v6 v7 v8 : Value} : Kp b w (((((((((w.setCell ⟨b, 0, none⟩ v0).setCell ⟨b, 1, none⟩ v1).setCell ⟨b, 2, none⟩ v2).setCell ⟨b, 3, none⟩ v3).setCell ⟨b, 4, none⟩ v4).setCell ⟨b, 5, none⟩ v5).setCell ⟨b, 6, none⟩ v6).setCell ⟨b, 7, none⟩ v7).setCell ⟨b, 8, none⟩ v8) := ((((((((((Kp.refl b w).set 0 v0).set 1 v1).set 2 v2).set 3 v3).set 4 v4).set 5 v5).set 6 v6).set 7 v7).set 8 v8)
theorem kp16 {b : Nat} {w : World} {v0 v1 v2 v3 v4 v5 v6 v7 v8 v9 v10 v11 v12 v13 v14 v15 : Value} : Kp b w ((((((((((((((((w.setCell ⟨b, 0, none⟩ v0).setCell ⟨b, 1, none⟩ v1).setCell ⟨b, 2, none⟩ v2).setCell ⟨b, 3, none⟩ v3).setCell ⟨b, 4, none⟩ v4).setCell ⟨b, 5, none⟩ v5).setCell ⟨b, 6, none⟩ v6).setCell ⟨b, 7, none⟩ v7).setCell ⟨b, 8, none⟩ v8).setCell ⟨b, 9, none⟩ v9).setCell ⟨b, 10, none⟩ v10).setCell ⟨b, 11, none⟩ v11).setCell ⟨b, 12, none⟩ v12).setCell ⟨b, 13, none⟩ v13).setCell ⟨b, 14, none⟩ v14).setCell ⟨b, 15, none⟩ v15) := (((((((((((((((((Kp.refl b w).set 0 v0).set 1 v1).set 2 v2).set 3 v3).set 4 v4).set 5 v5).set 6 v6).set 7 v7).set 8 v8).set 9 v9).set 10 v10).set 11 v11).set 12 v12).set 13 v13).set 14 v14).set 15 v15)

/-! ### a struct that is loaded, stored, handed back whole -/
/-- type ty is a struct or an array of n cells -/
structure RowTy (P : Program) (ty : TypeId) (n : Nat) : Prop where
  hu : (P.underlying ty).map (fun d => match d with | .struct _ | .array _ _ => true | _ => false) = some true
  hi : (P.info? ty).map (·.size) = some n

theorem RowTy.desc {P : Program} {ty : TypeId} {n : Nat} (h : RowTy P ty n) : ∃ d, P.underlying ty = some d ∧ (match d with | .struct _ | .array _ _ => true | _ => false) = true := by
  have := h.hu
  cases hd : P.underlying ty with
  | none => rw [hd] at this; cases this
  | some d => rw [hd] at this; exact ⟨d, rfl, by injection this⟩

section
variable {P : Program} {w : World} {ops : Array Oper} {rest : List Oper} {o : Oper} {a : Act} {Q : Exit → Act → World → Prop}

theorem wpList_loadBlk (hgd : o.guard = none) {ty n : Nat} (T : RowTy P ty n) (x : Operand) (ho : o.op = .load ty x) {g : Nat} (hx : a.eval x = .pointer (some ⟨g, 0, none⟩)) {t : TypeId} {cs : Array Value}
    (hg : Blk w g t cs) (h : wpList P ops Q rest (a.put o.dst (.agg cs)) w) (hn : cs.size = n := by rfl) : wpList P ops Q (o :: rest) a w := by
  obtain ⟨d, hu, hd⟩ := T.desc
  exact wpList_load_row hgd ty x ho g hx t cs (0, 0) d hg hu (by cases d <;> first | rfl | cases hd) (by rw [hn]; exact T.hi) h

theorem wpList_storeBlk (hgd : o.guard = none) {ty n : Nat} (T : RowTy P ty n) (x y : Operand) (ho : o.op = .store ty x y) {g : Nat} (hx : a.eval x = .pointer (some ⟨g, 0, none⟩)) {cells : Array Value} (hy : a.eval y = .agg cells)
    {t : TypeId} {old : Array Value} (hg : Blk w g t old)
    (h : ∀ w', Blk w' g t cells → Kp g w w' → wpList P ops Q rest (a.put o.dst undef) w')
    (hn : cells.size = n := by rfl) (hold : old.size = n := by rfl) (h1 : cells.toList.all (·.oneCell') = true := by rfl) : wpList P ops Q (o :: rest) a w := by
  refine wpList_plain hgd fun _ hK => wp_store_row ty x y ho g cells hx hy t old hg (by rw [hn]; exact T.hi) (by rw [hn, hold]) (by rw [← Array.all_toList]; exact h1) (hK _ _ (h _ ?_ ?_))
  · have hg' : w.heap[g]? = _ := hg
    show ({ w with heap := _ } : World).heap[g]? = _
    simp [Array.getElem?_modify, hg']
  · refine ⟨rfl, rfl, rfl, by simp [World.setRow], fun k hk => ?_⟩
    simp only [World.setRow, Array.getElem?_modify]
    rw [if_neg (by omega)]
end

theorem results_cell2 {P : Program} {fn : Func} {p q : Tmp} {ty n : Nat} (h : fn.results = #[.cell p ty, .tmp q]) (T : RowTy P ty n) {tmps : Array Value} {w : World} {g : Nat} {t : TypeId} {cs : Array Value}
    (hp : tmps.getD p undef = .pointer (some ⟨g, 0, none⟩)) (hg : Blk w g t cs) (hn : cs.size = n) : (results fn tmps).run P w = .ok (.tuple #[.agg cs, tmps.getD q undef]) w := by
  obtain ⟨d, hu, hd⟩ := T.desc
  have hp' : tmps[p]?.getD undef = .pointer (some ⟨g, 0, none⟩) := by simpa using hp
  simp [results, h, hp', asAddr, run_loadVar_row w g t ty cs (0, 0) d hg hu (by cases d <;> first | rfl | cases hd) (by rw [hn]; exact T.hi)]

theorem results_cell1 {P : Program} {fn : Func} {p : Tmp} {ty n : Nat} (h : fn.results = #[.cell p ty]) (T : RowTy P ty n) {tmps : Array Value} {w : World} {g : Nat} {t : TypeId} {cs : Array Value}
    (hp : tmps.getD p undef = .pointer (some ⟨g, 0, none⟩)) (hg : Blk w g t cs) (hn : cs.size = n) : (results fn tmps).run P w = .ok (.agg cs) w := by
  obtain ⟨d, hu, hd⟩ := T.desc
  exact results_cell_row h tmps w g t cs (0, 0) d hp hg hu (by cases d <;> first | rfl | cases hd) (by rw [hn]; exact T.hi)

/-! ### the same world, but for what has been drawn -/
structure Sm (w w' : World) : Prop where
  heap : w'.heap = w.heap
  os : w'.os = w.os
  tape : w'.tape = w.tape
  output : w'.output = w.output

section
variable {w w' : World}
theorem Sm.refl (w : World) : Sm w w := ⟨rfl, rfl, rfl, rfl⟩
theorem Sm.of_drewN (w : World) (k : Nat) : Sm w (w.drewN k) := ⟨rfl, rfl, rfl, rfl⟩
theorem Sm.size (s : Sm w w') : w'.heap.size = w.heap.size := by rw [s.heap]
theorem Blk.sm {g : Nat} {t : TypeId} {cs : Array Value} (h : Blk w g t cs) (s : Sm w w') : Blk w' g t cs := by unfold Blk at *; rw [s.heap]; exact h
theorem Rd.sm {lo hi n c : Nat} {A : Option Addr} {xs : List UInt8} (h : Rd w lo hi A n c xs) (s : Sm w w') : Rd w' lo hi A n c xs :=
  h.keep fun p _ _ => World.cell?_of_block (by rw [s.heap])
theorem Own.sm {base e n c : Nat} {A : Option Addr} {xs : List UInt8} (h : Own w base e A n c xs) (s : Sm w w') : Own w' base e A n c xs := by
  obtain ⟨h1, h2, h3⟩ := h
  exact ⟨h1, h2, by rw [s.heap]; exact h3⟩
theorem below_sm {B : Nat} {a : World} (h : Below B a w) (s : Sm w w') : Below B a w' :=
  ⟨s.os.trans h.os, s.tape.trans h.tape, s.output.trans h.output, by rw [s.heap]; exact h.size, fun k hk => by rw [s.heap]; exact h.block k hk⟩
theorem below_of_sm (B : Nat) (s : Sm w w') : Below B w w' := below_sm (Below.refl B w) s
end

/-- a row of bytes that bears a mark (a text's own bytes) -/
theorem Rd.mark (w : World) (e : Nat) (fr : Nat × Nat) (cs : Array Value) (xs : List UInt8) (hx : cs.toList = xs.map bv) (hm : xs.length ≤ 1000000000) {g n : Nat} (hg : w.heap.size = g) (hn : xs.length = n) :
    Rd (w.alloc (.cells cs e fr)) g (g + 1) (some ⟨g, 0, none⟩) n n xs := by
  subst hg
  subst hn
  refine ⟨rfl, Nat.le_refl _, by simp only [maxLen]; omega, fun _ => ⟨_, 0, rfl, Nat.le_refl _, by omega, fun i x hi => ?_⟩⟩
  have h1 : (w.alloc (.cells cs e fr)).heap[w.heap.size]? = some (.cells cs e fr) := heap_alloc_new w _
  have h2 : cs[i]? = some (bv x) := by
    rw [← Array.getElem?_toList, hx, List.getElem?_map, hi]
    rfl
  unfold World.cell?
  rw [h1]
  simpa using h2
end Go.Proofs.YtfofhpkafhpicaaGreatDoor
