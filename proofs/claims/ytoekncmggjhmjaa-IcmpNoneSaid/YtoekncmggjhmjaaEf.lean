/- An engine for walks, sixth part: structs and slices that are built, bytes and texts. -/
import Derived.Test.YtoekncmggjhmjaaEe
namespace Go.Proofs.Ytoekncmggjhmjaa
open Go.RowKit

theorem foldSet : ∀ (l : List Value) (n off : Nat) (cs : Array Value),
    ((l.zipIdx n).foldl (fun cs (p : Value × Nat) => cs.setIfInBounds (off + p.2) p.1) cs).size = cs.size ∧
    ∀ k, ((l.zipIdx n).foldl (fun cs (p : Value × Nat) => cs.setIfInBounds (off + p.2) p.1) cs)[k]? = if off + n ≤ k ∧ k < off + n + l.length ∧ k < cs.size then l[k - (off + n)]? else cs[k]?
  | [], n, off, cs => ⟨rfl, fun k => by rw [if_neg (by simp; omega)]; rfl⟩
  | v :: l, n, off, cs => by
    obtain ⟨h1, h2⟩ := foldSet l (n + 1) off (cs.setIfInBounds (off + n) v)
    simp only [List.zipIdx_cons, List.foldl_cons]
    refine ⟨by rw [h1]; simp, fun k => ?_⟩
    rw [h2, Array.size_setIfInBounds]
    by_cases hk : k = off + n
    · subst hk
      rw [if_neg (by omega)]
      by_cases hs : off + n < cs.size
      · rw [if_pos ⟨by omega, by simp, hs⟩]; simp [hs]
      · rw [if_neg (by omega), Array.getElem?_eq_none (by simp; omega), Array.getElem?_eq_none (by omega)]
    · by_cases hc : off + (n + 1) ≤ k ∧ k < off + (n + 1) + l.length ∧ k < cs.size
      · rw [if_pos hc, if_pos ⟨by omega, by simp; omega, hc.2.2⟩, show k - (off + n) = (k - (off + (n + 1))) + 1 by omega, List.getElem?_cons_succ]
      · rw [if_neg hc, if_neg (by simp; omega), Array.getElem?_setIfInBounds_ne (by omega)]

def Reps (E : Env) (w : World) (l : List AV) (cs : Array Value) : Prop := cs.size = l.length ∧ ∀ (k : Nat) a v, l[k]? = some a → cs[k]? = some v → Rep E w a v

/-- parts laid into a row of cells -/
def fillA (place : Nat → Option (Nat × Nat)) : List AV → List (Nat × AV) → Option (List AV)
  | l, [] => some l
  | l, (i, x) :: rest =>
    match place i, cellsOf x with
    | some (off, size), some cs => if cs.length = size ∧ off + cs.length ≤ l.length then fillA place (splice l off cs) rest else none
    | _, _ => none

section
variable {P : Program} {E : Env} {H : Heap} {w : World} {a : Act} {o : Oper} {nx rid : Nat} {tm : Nat → AV}

theorem fillA_ok (r : RepT E w tm a) (place : Nat → Option (Nat × Nat)) : ∀ (ps : List (Nat × Operand)) (l l' : List AV) (cs : Array Value), fillA place l (ps.map fun p => (p.1, avOf tm p.2)) = some l' → Reps E w l cs →
    ∃ cs', Instr.fill place cs (ps.map fun p => (p.1, a.eval p.2)) = some cs' ∧ Reps E w l' cs' ∧ l'.length = l.length
  | [], l, l', cs, h, hr => by
    simp only [List.map_nil, fillA, Option.some.injEq] at h
    subst h
    exact ⟨cs, rfl, hr, rfl⟩
  | (i, x) :: ps, l, l', cs, h, hr => by
    simp only [List.map_cons, fillA] at h
    split at h
    · rename_i off size c1 h1 h2
      split at h
      · rename_i hc
        obtain ⟨hn, hrep⟩ := cellsOf_rep h2 (r.eval x)
        obtain ⟨f1, f2⟩ := foldSet (a.eval x).cells.toList 0 off cs
        have hlen : (splice l off c1).length = l.length := splice_len _ _ _ hc.2
        have hreps : Reps E w (splice l off c1) (((a.eval x).cells.toList.zipIdx 0).foldl (fun cs (p : Value × Nat) => cs.setIfInBounds (off + p.2) p.1) cs) := ⟨by rw [f1, hr.1, hlen], fun k y v hy hv => by
          rw [splice_get _ _ _ hc.2] at hy
          rw [f2] at hv
          by_cases hk : off ≤ k ∧ k < off + c1.length
          · rw [if_pos hk] at hy
            rw [if_pos ⟨by omega, by simp [hn]; omega, by rw [hr.1]; omega⟩, Array.getElem?_toList] at hv
            simp only [Nat.add_zero] at hv
            exact hrep _ _ _ hy hv
          · rw [if_neg hk] at hy
            rw [if_neg (by simp [hn]; omega)] at hv
            exact hr.2 _ _ _ hy hv⟩
        obtain ⟨cs', e1, e2, e3⟩ := fillA_ok r place ps (splice l off c1) l' _ h hreps
        refine ⟨cs', ?_, e2, by rw [e3, hlen]⟩
        simp only [List.map_cons, Instr.fill, h1]
        rw [if_neg (by simp; rw [hn, hr.1]; omega)]
        rw [← e1]
        congr 1
        rw [← Array.foldl_toList]
        simp
      · cases h
    · cases h

theorem reps_vals (l : List Value) (cs : Array Value) (h : cs.toList = l) : Reps E w (l.map .val) cs := by
  subst h
  refine ⟨by simp, fun k a v h1 h2 => ?_⟩
  simp only [List.getElem?_map, Option.map_eq_some_iff, Array.getElem?_toList] at h1
  obtain ⟨y, hy, rfl⟩ := h1
  rw [hy] at h2
  injection h2 with h2
  subst h2
  exact .val _

/-- the places of a struct's fields, of an array's elements -/
def placesT (P : Program) (t : TypeId) : Option (Nat → Option (Nat × Nat)) :=
  match P.underlying t with
  | some (.struct fs) => (pureEval P (fs.mapM fun f => do pure (f.offset, ← sizeOf f.type))).map fun ps i => ps[i]?
  | some (.array _ e) => (szT P e).map fun n i => some (i * n, n)
  | _ => none

theorem ok_build {t : TypeId} {ps : Array (Nat × Operand)} {z : List Value} {pl : Nat → Option (Nat × Nat)} {l : List AV} (s : Sat E nx H w) (r : RepT E w tm a) (h : o.op = .build t ps) (hz : zeroT P t = some z)
    (hp : placesT P t = some pl) (hl : fillA pl (z.map .val) (ps.toList.map fun p => (p.1, avOf tm p.2)) = some l) : OpOk P o E H a w rid nx ⟨.agg l, [], nx⟩ := by
  obtain ⟨zv, hz1, hz2⟩ := zeroT_run hz w
  obtain ⟨cs', e1, e2, _⟩ := fillA_ok r pl _ _ _ zv.cells hl (reps_vals z zv.cells hz2)
  refine ok_val (u := .agg cs') s ?_ (.agg e2.1 e2.2)
  unfold placesT at hp
  have hmap : (ps.map fun x : Nat × Operand => match x with | (i, x) => (i, a.eval x)).toList = ps.toList.map fun p => (p.1, a.eval p.2) := by simp
  split at hp
  · rename_i fs hfs
    obtain ⟨pa, hpa, rfl⟩ := Option.map_eq_some_iff.1 hp
    have := pureEval_run (P := P) _ w hpa
    simp only [execOp, h, Instr.build, Sem.run_bind, hz1, Result.andThen_ok, run_underlying hfs, this, hmap, e1]
    rfl
  · rename_i n e hfs
    obtain ⟨m, hm, rfl⟩ := Option.map_eq_some_iff.1 hp
    simp only [execOp, h, Instr.build, Sem.run_bind, hz1, Result.andThen_ok, run_underlying hfs, szT_run hm, hmap, e1]
    rfl
  · cases hp

/-! ### slices that are made -/
/-- a row of cells cut into elements -/
def chunk (sz : Nat) : Nat → List AV → List (List AV)
  | 0, _ => []
  | n + 1, l => l.take sz :: chunk sz n (l.drop sz)

theorem chunk_len (sz : Nat) : ∀ (n : Nat) (l : List AV), (chunk sz n l).length = n
  | 0, _ => rfl
  | n + 1, l => by simp [chunk, chunk_len sz n]

theorem chunk_get (sz : Nat) : ∀ (n : Nat) (l : List AV) (i j : Nat), l.length = n * sz → i < n → j < sz → ((chunk sz n l)[i]?).bind (·[j]?) = l[i * sz + j]?
  | 0, l, i, j, _, hi, _ => absurd hi (by omega)
  | n + 1, l, 0, j, hl, _, hj => by simp [chunk, hj]
  | n + 1, l, i + 1, j, hl, hi, hj => by
    simp only [chunk, List.getElem?_cons_succ]
    rw [chunk_get sz n (l.drop sz) i j (by rw [List.length_drop, hl, Nat.add_mul]; omega) (by omega) hj, List.getElem?_drop]
    congr 1
    rw [Nat.add_mul]
    omega

/-- a byte among exact values -/
def byteOf : AV → Option UInt8
  | .val (.int .u8 (.ofNat n)) => some (UInt8.ofNat n)
  | _ => none
def isByteAV : AV → Prop
  | .val (.int .u8 z) => 0 ≤ z ∧ z < 256
  | _ => False
def byteZ : AV → Int
  | .val (.int .u8 z) => z
  | _ => 0
def byteVal (x : AV) : UInt8 := UInt8.ofNat (byteZ x).toNat

theorem byteVal_eq {x : AV} (h : isByteAV x) : x = .val (bv (byteVal x)) := by
  unfold isByteAV at h
  split at h
  · rename_i z
    simp only [byteVal, byteZ, bv]
    have hz : z.toNat < 256 := by omega
    have : ((UInt8.ofNat z.toNat).toNat : Int) = z := by
      rw [UInt8.toNat_ofNat', Nat.mod_eq_of_lt hz]
      omega
    rw [this]
  · exact h.elim

/-- the object that a made slice lies in -/
def objRows (t : TypeId) (sz n : Nat) (l : List AV) : AObj := ⟨t, sz, true, false, .rows (chunk sz n l)⟩
def objBytes (t : TypeId) (xs : List UInt8) : AObj := ⟨t, 1, true, false, .bytes xs⟩

theorem new_rows (s : Sat E nx H w) {nx' : Nat} (hr : E.f rid = none) (hnx : nx ≤ nx') (hrid : rid < nx') {t : TypeId} {sz n : Nat} {cs : Array Value} {l : List AV} (hl : l.length = n * sz) (hn : n ≤ maxLen) (hrep : Reps E w l cs) :
    Post E H w rid nx ⟨.sl rid 0 n none, [(rid, some (objRows t sz n l))], nx'⟩ (E.put rid (.at_ w.heap.size n sz)) (w.alloc (.cells cs t)) (.slice (some ⟨w.heap.size, 0, none⟩) n n) := by
  have h := sat_new (w' := w.alloc (.cells cs t)) (o := objRows t sz n l) (c := n) (fr := (0, 0)) (cur := cs) s hr hnx hrid rfl ⟨rfl, rfl, rfl⟩ (by simp [objRows, hrep.1, hl]) (by simp [objRows, Body.len, chunk_len]) hn (by simp [objRows, Body.len, chunk_len]) (.inl rfl)
    (by
      intro i hi j hj
      simp only [objRows, Body.len, chunk_len] at hi hj
      have hlt : i * sz + j < l.length := by rw [hl]; exact flat_lt hj hi
      have h1 : l[i * sz + j]? = some l[i * sz + j] := List.getElem?_eq_getElem hlt
      have h2 : cs[i * sz + j]? = some (cs[i * sz + j]'(by rw [hrep.1]; exact hlt)) := by simp [hrep.1, hlt]
      exact ⟨_, _, by simp only [objRows, Body.cell?]; rw [chunk_get sz n l i j hl hi hj]; exact h1, h2, hrep.2 _ _ _ h1 h2⟩)
  refine ⟨h.1, ?_, h.2.weaken fun id e => .inl e, hnx⟩
  have := Rep.sl (E := E.put rid (.at_ w.heap.size n sz)) (w := w.alloc (.cells cs t)) (id := rid) (off := 0) (n := n) (lim := none) (cap := n) (A := some ⟨w.heap.size, 0, none⟩) (Env.put_same E rid (.at_ w.heap.size n sz)) rfl (Nat.le_refl _) (Nat.le_refl _) (.inr (by simp))
  exact this

theorem new_bytes (s : Sat E nx H w) {nx' : Nat} (hr : E.f rid = none) (hnx : nx ≤ nx') (hrid : rid < nx') {t : TypeId} {xs : List UInt8} (hn : xs.length ≤ maxLen) :
    Post E H w rid nx ⟨.sl rid 0 xs.length none, [(rid, some (objBytes t xs))], nx'⟩ (E.put rid (.at_ w.heap.size xs.length 1)) (w.alloc (.cells (xs.map bv).toArray t)) (.slice (some ⟨w.heap.size, 0, none⟩) xs.length xs.length) := by
  have h := sat_new (w' := w.alloc (.cells (xs.map bv).toArray t)) (o := objBytes t xs) (c := xs.length) (fr := (0, 0)) (cur := (xs.map bv).toArray) s hr hnx hrid rfl ⟨rfl, rfl, rfl⟩ (by simp [objBytes]) (by simp [objBytes, Body.len]) hn (by simp [objBytes, Body.len]) (.inl rfl)
    (by
      intro i hi j hj
      simp only [objBytes, Body.len] at hi hj
      obtain rfl : j = 0 := by omega
      exact ⟨.val (bv xs[i]), bv xs[i], by simp [objBytes, Body.cell?, hi], by simp [objBytes, hi], .val _⟩)
  refine ⟨h.1, ?_, h.2.weaken fun id e => .inl e, hnx⟩
  exact Rep.sl (E := E.put rid (.at_ w.heap.size xs.length 1)) (w := w.alloc (.cells (xs.map bv).toArray t)) (id := rid) (off := 0) (n := xs.length) (lim := none) (cap := xs.length) (A := some ⟨w.heap.size, 0, none⟩) (Env.put_same E rid (.at_ w.heap.size xs.length 1)) rfl (Nat.le_refl _) (Nat.le_refl _) (.inr (by simp))

theorem range_mod (z : Array Value) (n : Nat) (l : List Value) (hl : z.toList = l) : ((Array.range (n * z.size)).map fun i => z[i % z.size]!).toList = (List.replicate n l).flatten := by
  subst hl
  apply List.ext_getElem?
  intro k
  by_cases hz : z.size = 0
  · have : z = #[] := Array.eq_empty_of_size_eq_zero hz
    subst this
    simp
  · by_cases hk : k < n * z.size
    · have h1 : k / z.size < n := by rw [Nat.div_lt_iff_lt_mul (by omega)]; exact hk
      have h2 : k % z.size < z.size := Nat.mod_lt _ (by omega)
      rw [Array.getElem?_toList, Array.getElem?_map, Array.getElem?_range]
      have h3 : ∀ (m k : Nat), k < m * z.size → (List.replicate m z.toList).flatten[k]? = z.toList[k % z.size]? := by
        intro m
        induction m with
        | zero => intro k hk; omega
        | succ m ih =>
          intro k hk
          rw [List.replicate_succ, List.flatten_cons]
          by_cases hk2 : k < z.size
          · rw [List.getElem?_append_left (by simpa using hk2), Nat.mod_eq_of_lt hk2]
          · have hzl : z.toList.length = z.size := by simp
            rw [List.getElem?_append_right (by rw [hzl]; omega), hzl, ih (k - z.size) (by rw [Nat.add_mul] at hk; omega), ← Nat.mod_eq_sub_mod (by omega)]
      rw [h3 n k hk]
      simp [hk, h2]
    · rw [List.getElem?_eq_none (by simp; omega), List.getElem?_eq_none (by simp; omega)]

theorem ok_buildSlice {t e : TypeId} {n sz : Nat} {ps : Array (Nat × Operand)} {z : List Value} {l : List AV} {nx' : Nat} (s : Sat E nx H w) (r : RepT E w tm a) (hr : E.f rid = none) (hnx : nx ≤ nx') (hrid : rid < nx') (h : o.op = .buildSlice t n ps) (ht : elemT P t = some e) (hs : szT P e = some sz)
    (hz : zeroT P e = some z) (hzl : z.length = sz) (hsz : 0 < sz) (hb : n * sz ≤ 16777216) (hl : fillA (fun i => some (i * sz, sz)) ((List.replicate n z).flatten.map .val) (ps.toList.map fun p => (p.1, avOf tm p.2)) = some l) :
    OpOk P o E H a w rid nx ⟨.sl rid 0 n none, [(rid, some (objRows e sz n l))], nx'⟩ := by
  obtain ⟨zv, hz1, hz2⟩ := zeroT_run hz w
  have hzs : zv.cells.size = sz := by rw [← hzl, ← hz2]; simp
  have hflat : ((List.replicate n z).flatten).length = n * sz := by simp [hzl]
  obtain ⟨cs', e1, e2, e3⟩ := fillA_ok r (fun i => some (i * sz, sz)) _ _ _ ((Array.range (n * sz)).map fun i => zv.cells[i % zv.cells.size]!) hl (reps_vals _ _ (by rw [← hzs]; exact range_mod _ _ _ hz2))
  have hll : l.length = n * sz := by rw [e3]; simp [hzl]
  refine .value _ _ _ ?_ (new_rows (t := e) s hr hnx hrid hll (by unfold maxLen; have : n * 1 ≤ n * sz := Nat.mul_le_mul_left _ hsz; omega) e2)
  have hmap : (ps.map fun x : Nat × Operand => match x with | (i, x) => (i, a.eval x)).toList = ps.toList.map fun p => (p.1, a.eval p.2) := by simp
  by_cases h0 : n * sz = 0
  · have hn0 : n = 0 := by rcases Nat.mul_eq_zero.1 h0 with h | h <;> omega
    subst hn0
    have hre : ∀ f : Nat → Value, (Array.range (0 * sz)).map f = #[] := fun f => by
      apply Array.eq_empty_of_size_eq_zero
      simp
    rw [hre] at e1
    simp only [execOp, h, Instr.buildSlice, Sem.run_bind, Result.andThen_ok, elemT_run ht, szT_run hs, hmap, hre, e1]
    simp [newRow]
  · have hb' : ¬ n * sz > 2 ^ 24 := by omega
    simp [execOp, h, Instr.buildSlice, elemT_run ht, szT_run hs, hz1, hb', h0, e1, newRow]

/-- elements that are bytes -/
theorem ok_buildBytes {t e : TypeId} {n : Nat} {ps : Array (Nat × Operand)} {z : List Value} {l : List AV} {nx' : Nat} (s : Sat E nx H w) (r : RepT E w tm a) (hr : E.f rid = none) (hnx : nx ≤ nx') (hrid : rid < nx') (h : o.op = .buildSlice t n ps) (ht : elemT P t = some e) (hs : szT P e = some 1)
    (hz : zeroT P e = some z) (hzl : z.length = 1) (hb : n * 1 ≤ 16777216) (hl : fillA (fun i => some (i * 1, 1)) ((List.replicate n z).flatten.map .val) (ps.toList.map fun p => (p.1, avOf tm p.2)) = some l) (hby : ∀ x ∈ l, isByteAV x) :
    OpOk P o E H a w rid nx ⟨.sl rid 0 n none, [(rid, some (objBytes e (l.map byteVal)))], nx'⟩ := by
  obtain ⟨zv, hz1, hz2⟩ := zeroT_run hz w
  have hzs : zv.cells.size = 1 := by rw [← hzl, ← hz2]; simp
  obtain ⟨cs', e1, e2, e3⟩ := fillA_ok r (fun i => some (i * 1, 1)) _ _ _ ((Array.range (n * 1)).map fun i => zv.cells[i % zv.cells.size]!) hl (reps_vals _ _ (by rw [← hzs]; exact range_mod _ _ _ hz2))
  have hll : l.length = n := by rw [e3]; simp [hzl]
  have hcs : cs' = ((l.map byteVal).map bv).toArray := by
    apply Array.ext_getElem?
    intro k
    by_cases hk : k < l.length
    · have h1 : l[k]? = some l[k] := List.getElem?_eq_getElem hk
      have h2 : cs'[k]? = some (cs'[k]'(by rw [e2.1]; exact hk)) := by simp [e2.1, hk]
      have h3 := e2.2 _ _ _ h1 h2
      rw [byteVal_eq (hby _ (List.getElem_mem hk))] at h3
      rw [h2, h3.val_inv]
      simp [hk]
    · rw [Array.getElem?_eq_none (by rw [e2.1]; omega), Array.getElem?_eq_none (by simp; omega)]
  have hp := new_bytes (t := e) (xs := l.map byteVal) s hr hnx hrid (by unfold maxLen; simp; omega)
  simp only [List.length_map, hll] at hp
  rw [← hcs] at hp
  refine .value _ _ _ ?_ hp
  have hmap : (ps.map fun x : Nat × Operand => match x with | (i, x) => (i, a.eval x)).toList = ps.toList.map fun p => (p.1, a.eval p.2) := by simp
  by_cases h0 : n = 0
  · subst h0
    have hre : ∀ f : Nat → Value, (Array.range (0 * 1)).map f = #[] := fun f => by
      apply Array.eq_empty_of_size_eq_zero
      simp
    rw [hre] at e1
    simp only [execOp, h, Instr.buildSlice, Sem.run_bind, Result.andThen_ok, elemT_run ht, szT_run hs, hmap, hre, e1]
    simp [newRow]
  · have hb' : ¬ n > 2 ^ 24 := by omega
    simp only [Nat.mul_one] at e1
    simp [execOp, h, Instr.buildSlice, elemT_run ht, szT_run hs, hz1, hb', h0, e1, newRow]

theorem ok_makeBytes {t e : TypeId} {x y : Operand} {n : Nat} {i : TypeInfo} {nx' : Nat} (s : Sat E nx H w) (r : RepT E w tm a) (hr : E.f rid = none) (hnx : nx ≤ nx') (hrid : rid < nx') (h : o.op = .makeSlice t x y) (ht : elemT P t = some e)
    (hi : P.info? e = some i) (hi1 : i.bytes = 1) (hi2 : i.size = 1) (hi3 : i.zero = some (.int .u8 0)) (hx : avOf tm x = .val (.int .i64 n)) (hy : avOf tm y = .val (.int .i64 n)) (hn : n ≤ 1000000000) :
    OpOk P o E H a w rid nx ⟨.sl rid 0 n none, [(rid, some (objBytes e (List.replicate n 0)))], nx'⟩ := by
  have hp := new_bytes (t := e) (xs := List.replicate n 0) s hr hnx hrid (by unfold maxLen; simp; omega)
  simp only [List.length_replicate] at hp
  have hvx := eval_val r hx
  have hvy := eval_val r hy
  refine .value _ _ _ ?_ hp
  have hw : IntKind.i64.wrap (n : Int) = n := IntWalk.i64_in (n : Int) (by omega)
  have hz0 : (zeroValue e).run P w = .ok (.int .u8 0) w := by simp [zeroValue, run_info hi, hi3]
  have hs0 : (sizeOf e).run P w = .ok 1 w := by simp [sizeOf, run_info hi, hi2]
  simp only [execOp, h, Instr.makeSlice, Sem.run_bind, elemT_run ht, Result.andThen_ok, hvx, hvy, asInt, asIntOf, Sem.run_pure, run_info hi, hi1, hw]
  have g1 : ¬ ((n : Int) < 0) := by omega
  have g3 : ¬ (n > roomBytes) := by unfold roomBytes; omega
  by_cases h0 : n = 0
  · subst h0
    have hre : ∀ f : Nat → Value, (Array.range 0).map f = #[] := fun f => by
      apply Array.eq_empty_of_size_eq_zero
      simp
    simp [askRoom, roomBytes, hs0, newRow, hre]
  · have g4 : ¬ (281474976710656 < (n : Int)) := by omega
    simp [askRoom, hs0, hz0, newRow, Value.cells, g1, g3, g4, h0]
    congr 2
    apply Array.ext_getElem?
    intro k
    by_cases hk : k < n
    · simp [hk, Nat.mod_one, bv]
    · simp [hk]
end
end Go.Proofs.Ytoekncmggjhmjaa
