/- An engine for walks, third part: what one operation does: operations that touch no memory. -/
import Derived.Test.YtoekncmggjhmjaaEb
namespace Go.Proofs.Ytoekncmggjhmjaa
open Go.RowKit

/-- a computation that asks the program alone -/
def pureEval {α : Type} (P : Program) : Sem α → Option α
  | .pure a => some a
  | .program k => pureEval P (k P)
  | .mark _ k => pureEval P k
  | _ => none

theorem pureEval_run {α : Type} {P : Program} {a : α} (s : Sem α) (w : World) (h : pureEval P s = some a) : s.run P w = .ok a w := by
  induction s with
  | pure b => simp only [pureEval, Option.some.injEq] at h; subst h; rfl
  | program k ih => exact ih P h
  | mark m k ih => exact ih h
  | _ => simp [pureEval] at h

/-- what an operation leaves: a value, objects that have turned, the first free number -/
structure Eff where
  v : AV
  us : List (Nat × Option AObj)
  nx : Nat

structure Post (E : Env) (H : Heap) (w : World) (rid nx : Nat) (f : Eff) (E' : Env) (w' : World) (u : Value) : Prop where
  sat : Sat E' f.nx (applyU H f.us) w'
  rep : Rep E' w' f.v u
  ext : Ext E H w (fun id => id = rid ∨ nx ≤ id) E' (applyU H f.us) w'
  le : nx ≤ f.nx

inductive OpOk (P : Program) (o : Oper) (E : Env) (H : Heap) (a : Act) (w : World) (rid nx : Nat) (f : Eff) : Prop where
  | value (E' : Env) (w' : World) (u : Value) (h : (execOp a.eval o).run P w = .ok (.value u) w') (p : Post E H w rid nx f E' w' u)
  | skip (E' : Env) (w' : World) (h : (execOp a.eval o).run P w = .ok .skip w') (p : Post E H w rid nx f E' w' undef)
  | enter (g : FuncId) (args : Array Value) (w1 : World) (h : (execOp a.eval o).run P w = .ok (.enter g args) w1)
      (c : Calls P g args w1 fun e w' => ∃ E' u, e = .returned u ∧ Post E H w rid nx f E' w' u)

theorem OpOk.wp {P : Program} {o : Oper} {E : Env} {H : Heap} {a : Act} {w : World} {rid nx : Nat} {f : Eff} (h : OpOk P o E H a w rid nx f)
    {K : Act → World → Prop} {Q : Exit → Act → World → Prop} (hK : ∀ E' w' u, Post E H w rid nx f E' w' u → K (a.put o.dst u) w') : o.wp P a w K Q := by
  unfold Oper.wp
  cases h with
  | value E' w' u h p => rw [h]; exact hK _ _ _ p
  | skip E' w' h p => rw [h]; exact hK _ _ _ p
  | enter g args w1 h c =>
    rw [h]
    refine Calls.mono c fun e w' hh => ?_
    obtain ⟨E', u, rfl, p⟩ := hh
    exact hK _ _ _ p

/-- where an operation leaves but a value -/
theorem ok_val {P : Program} {o : Oper} {E : Env} {H : Heap} {a : Act} {w : World} {rid nx : Nat} {v : AV} {u : Value} (s : Sat E nx H w)
    (h : (execOp a.eval o).run P w = .ok (.value u) w) (r : Rep E w v u) : OpOk P o E H a w rid nx ⟨v, [], nx⟩ :=
  .value E w u h ⟨s, r, Ext.refl s, Nat.le_refl _⟩

/-! ### what the operands hold -/
def avOf (tm : Nat → AV) : Operand → AV
  | .tmp t => tm t
  | .const v => .val v
  | .global g => .val (.pointer (some ⟨g, 0, none⟩))
  | .func f => .fn (.func f) []

def valOne : AV → Option Value
  | .val v => some v
  | _ => none
def toVal : AV → Option Value
  | .val v => some v
  | .agg l => (l.mapM valOne).map fun cs => .agg cs.toArray
  | .fn f [] => some (.func f #[] #[])
  | _ => none

structure RepT (E : Env) (w : World) (tm : Nat → AV) (a : Act) : Prop where
  rep : ∀ t, Rep E w (tm t) (a.tmps.getD t undef)

section
variable {P : Program} {E : Env} {H : Heap} {w : World} {a : Act} {o : Oper} {nx rid : Nat} {tm : Nat → AV}

theorem RepT.eval (h : RepT E w tm a) (x : Operand) : Rep E w (avOf tm x) (a.eval x) := by
  cases x with
  | tmp t => exact h.rep t
  | const v => exact .val v
  | global g => exact .val _
  | func f => exact .fn rfl (fun k a v h _ => by simp at h)

theorem mapM_valOne : ∀ (l : List AV) (cs : List Value), l.mapM valOne = some cs → l = cs.map .val
  | [], cs, h => by simp at h; subst h; rfl
  | x :: l, cs, h => by
    rw [List.mapM_cons] at h
    cases hx : valOne x with
    | none => simp [hx] at h
    | some v =>
      cases hl : l.mapM valOne with
      | none => simp [hx, hl] at h
      | some vs =>
        simp [hx, hl] at h
        subst h
        have := mapM_valOne l vs hl
        subst this
        cases x <;> simp [valOne] at hx
        subst hx
        rfl

theorem Rep.val_inv {E : Env} {w : World} {v u : Value} (h : Rep E w (.val v) u) : u = v := by cases h; rfl

theorem rep_vals {E : Env} {w : World} {vs : List Value} {cs : Array Value} (hn : cs.size = (vs.map AV.val).length) (h : ∀ (k : Nat) a v, (vs.map AV.val)[k]? = some a → cs[k]? = some v → Rep E w a v) : cs = vs.toArray := by
  apply Array.ext_getElem?
  intro k
  simp only [List.length_map] at hn
  by_cases hk : k < vs.length
  · have h1 : (vs.map AV.val)[k]? = some (.val vs[k]) := by simp [hk]
    have h2 : cs[k]? = some cs[k] := by simp [hn, hk]
    have := (h k _ _ h1 h2).val_inv
    simp [hk, h2, this]
  · simp [hk]; omega

theorem toVal_rep {x : AV} {u v : Value} (h : toVal x = some v) (r : Rep E w x u) : u = v := by
  cases x with
  | val v' => cases r; simpa [toVal] using h
  | agg l =>
    simp only [toVal, Option.map_eq_some_iff] at h
    obtain ⟨cs, h1, rfl⟩ := h
    have := mapM_valOne _ _ h1
    subst this
    cases r with
    | agg hn hr => rw [rep_vals hn hr]
  | fn f l =>
    cases l with
    | nil =>
      simp only [toVal, Option.some.injEq] at h
      subst h
      cases r with
      | fn hn hr =>
        congr 1
        exact Array.eq_empty_of_size_eq_zero (by simpa using hn)
    | cons => simp [toVal] at h
  | _ => simp [toVal] at h

/-- the exact values of all operands, where they are exact -/
def vals (tm : Nat → AV) (o : Oper) : Bool := o.op.operands.toList.all fun x => (toVal (avOf tm x)).isSome
def valAt (tm : Nat → AV) (x : Operand) : Value := (toVal (avOf tm x)).getD undef

def noSelect : Op → Bool
  | .select _ _ => false
  | _ => true

/-- an operation on exact values that asks the program alone -/
def pureOp (P : Program) (tm : Nat → AV) (o : Oper) : Option Value :=
  if vals tm o && noSelect o.op then
    match pureEval P (execOp (valAt tm) o) with
    | some (.value v) => some v
    | _ => none
  else none

theorem ok_pure {v : Value} (s : Sat E nx H w) (r : RepT E w tm a) (h : pureOp P tm o = some v) : OpOk P o E H a w rid nx ⟨.val v, [], nx⟩ := by
  unfold pureOp at h
  split at h
  · rename_i hc
    simp only [Bool.and_eq_true] at hc
    obtain ⟨hv, hs⟩ := hc
    split at h
    · rename_i v' he
      injection h with h
      subst h
      refine ok_val s ?_ (.val _)
      have : execOp a.eval o = execOp (valAt tm) o := by
        refine execOp_congr o (fun cs b e => by rw [e] at hs; cases hs) fun x hx => ?_
        unfold vals at hv
        rw [List.all_eq_true] at hv
        have h1 := hv x (by simpa using hx)
        obtain ⟨y, hy⟩ := Option.isSome_iff_exists.1 h1
        rw [toVal_rep hy (r.eval x)]
        simp [valAt, hy]
      rw [this]
      exact pureEval_run _ _ he
    · cases h
  · cases h

theorem ok_move {x : Operand} (s : Sat E nx H w) (r : RepT E w tm a) (h : o.op = .move x ∨ o.op = .assign x) : OpOk P o E H a w rid nx ⟨avOf tm x, [], nx⟩ := by
  refine ok_val (u := a.eval x) s ?_ (r.eval x)
  rcases h with h | h <;> simp [execOp, h]

theorem ok_extract {x : Operand} {i : Nat} {l : List AV} {v : AV} (s : Sat E nx H w) (r : RepT E w tm a) (h : o.op = .extract x i) (hx : avOf tm x = .tup l) (hi : l[i]? = some v) : OpOk P o E H a w rid nx ⟨v, [], nx⟩ := by
  have rx := r.eval x
  rw [hx] at rx
  cases hv : a.eval x <;> rw [hv] at rx <;> cases rx
  rename_i cs hn hr
  have hlt : i < cs.size := by rw [hn]; exact (List.getElem?_eq_some_iff.1 hi).1
  refine ok_val (u := cs[i]) s ?_ (hr i _ _ hi (by simp [hlt]))
  simp [execOp, h, hv, Instr.extract, hlt]

/-- a type's size in cells; whether it is a struct or an array -/
def szT (P : Program) (t : TypeId) : Option Nat := (P.info? t).map (·.size)
def aggT (P : Program) (t : TypeId) : Option Bool := (P.underlying t).map fun d => match d with | .struct _ | .array _ _ => true | _ => false
def fieldT (P : Program) (t : TypeId) (f : Nat) : Option (Nat × TypeId) :=
  match P.underlying t with
  | some (.struct fs) => (fs[f]?).map fun x => (x.offset, x.type)
  | _ => none
def elemT (P : Program) (t : TypeId) : Option TypeId :=
  match P.underlying t with
  | some (.slice e) => some e
  | _ => none
def arrT (P : Program) (t : TypeId) : Option (Nat × TypeId) :=
  match P.underlying t with
  | some (.array n e) => some (n, e)
  | _ => none

theorem run_info {P : Program} {t : TypeId} {i : TypeInfo} (h : P.info? t = some i) (w : World) : (typeInfo t).run P w = .ok i w := by
  simp [typeInfo, h, Sem.run, program]
theorem szT_run {P : Program} {t : TypeId} {n : Nat} (h : szT P t = some n) (w : World) : (sizeOf t).run P w = .ok n w := by
  unfold szT at h
  obtain ⟨i, hi, rfl⟩ := Option.map_eq_some_iff.1 h
  simp [sizeOf, run_info hi]
theorem aggT_run {P : Program} {t : TypeId} {b : Bool} (h : aggT P t = some b) (w : World) : (isAgg t).run P w = .ok b w := by
  unfold aggT at h
  obtain ⟨d, hd, rfl⟩ := Option.map_eq_some_iff.1 h
  simp only [isAgg, Sem.run_bind, run_underlying hd, Result.andThen_ok]
  cases d <;> simp
theorem elemT_run {P : Program} {t e : TypeId} (h : elemT P t = some e) (w : World) : (underlying t).run P w = .ok (.slice e) w := by
  unfold elemT at h
  split at h
  · rename_i e' he
    injection h with h
    subst h
    exact run_underlying he w
  · cases h
theorem arrT_run {P : Program} {t e : TypeId} {n : Nat} (h : arrT P t = some (n, e)) (w : World) : (underlying t).run P w = .ok (.array n e) w := by
  unfold arrT at h
  split at h
  · rename_i n' e' he
    simp only [Option.some.injEq, Prod.mk.injEq] at h
    obtain ⟨rfl, rfl⟩ := h
    exact run_underlying he w
  · cases h

/-- a part of a struct's cells -/
def partA (P : Program) (t : TypeId) (l : List AV) (off : Nat) : Option AV :=
  match aggT P t, szT P t with
  | some true, some n => if off + n ≤ l.length then some (.agg ((l.drop off).take n)) else none
  | some false, _ => l[off]?
  | _, _ => none

theorem rep_sub {l : List AV} {cs : Array Value} (hn : cs.size = l.length) (hr : ∀ (k : Nat) a v, l[k]? = some a → cs[k]? = some v → Rep E w a v) {off n : Nat} (hl : off + n ≤ l.length) :
    Rep E w (.agg ((l.drop off).take n)) (.agg (cs.extract off (off + n))) := by
  refine .agg (by simp; omega) fun k a v h1 h2 => ?_
  rw [List.getElem?_take] at h1
  split at h1
  · rw [List.getElem?_drop] at h1
    rw [Array.getElem?_extract] at h2
    split at h2
    · exact hr _ _ _ h1 h2
    · cases h2
  · cases h1

theorem part_run {t : TypeId} {l : List AV} {off : Nat} {v : AV} {cs : Array Value} (h : partA P t l off = some v) (hn : cs.size = l.length) (hr : ∀ (k : Nat) a v, l[k]? = some a → cs[k]? = some v → Rep E w a v) :
    ∃ u, (part t cs off).run P w = .ok u w ∧ Rep E w v u := by
  unfold partA at h
  split at h
  · rename_i n h1 h2
    split at h
    · injection h with h
      subst h
      exact ⟨.agg (cs.extract off (off + n)), by simp [part, aggT_run h1, szT_run h2], rep_sub hn hr (by assumption)⟩
    · cases h
  · rename_i h1
    have hlt : off < cs.size := by rw [hn]; exact (List.getElem?_eq_some_iff.1 h).1
    exact ⟨cs[off], by simp [part, aggT_run h1, hlt], hr off _ _ h (by simp [hlt])⟩
  · cases h

/-- the cells of a struct -/
def aggCells : AV → Option (List AV)
  | .agg l => some l
  | .val (.agg cs) => some (cs.toList.map .val)
  | _ => none

theorem aggCells_rep {x : AV} {u : Value} {l : List AV} (h : aggCells x = some l) (r : Rep E w x u) :
    ∃ cs : Array Value, u = .agg cs ∧ cs.size = l.length ∧ ∀ (k : Nat) a v, l[k]? = some a → cs[k]? = some v → Rep E w a v := by
  cases x with
  | agg l' =>
    simp only [aggCells, Option.some.injEq] at h
    subst h
    cases r with
    | agg hn hr => exact ⟨_, rfl, hn, hr⟩
  | val v =>
    have := r.val_inv
    subst this
    cases u <;> simp [aggCells] at h
    rename_i cs
    subst h
    refine ⟨cs, rfl, by simp, fun k a v h1 h2 => ?_⟩
    simp only [List.getElem?_map, Option.map_eq_some_iff, Array.getElem?_toList] at h1
    obtain ⟨y, hy, rfl⟩ := h1
    rw [hy] at h2
    injection h2 with h2
    subst h2
    exact .val _
  | _ => simp [aggCells] at h

theorem ok_field {x : Operand} {t : TypeId} {f off : Nat} {ft : TypeId} {l : List AV} {v : AV} (s : Sat E nx H w) (r : RepT E w tm a) (h : o.op = .field t x f) (hx : aggCells (avOf tm x) = some l)
    (hf : fieldT P t f = some (off, ft)) (hp : partA P ft l off = some v) : OpOk P o E H a w rid nx ⟨v, [], nx⟩ := by
  obtain ⟨cs, hu, hn, hr⟩ := aggCells_rep hx (r.eval x)
  obtain ⟨u, h1, h2⟩ := part_run hp hn hr
  refine ok_val (u := u) s ?_ h2
  unfold fieldT at hf
  split at hf
  · rename_i fs hfs
    simp only [Option.map_eq_some_iff, Prod.mk.injEq] at hf
    obtain ⟨y, hy, rfl, rfl⟩ := hf
    simp [execOp, h, hu, Instr.field, run_underlying hfs, hy, asAgg, h1]
  · cases hf

theorem ok_index {x ix : Operand} {t : TypeId} {e : TypeId} {n es : Nat} {k : IntKind} {z : Int} {l : List AV} {v : AV} (s : Sat E nx H w) (r : RepT E w tm a) (h : o.op = .index t x ix) (hx : aggCells (avOf tm x) = some l)
    (hi : avOf tm ix = .val (.int k z)) (hz : 0 ≤ z ∧ z < (n : Int)) (ht : arrT P t = some (n, e)) (he : szT P e = some es) (hp : partA P e l (z.toNat * es) = some v) : OpOk P o E H a w rid nx ⟨v, [], nx⟩ := by
  obtain ⟨cs, hu, hn, hr⟩ := aggCells_rep hx (r.eval x)
  obtain ⟨u, h1, h2⟩ := part_run hp hn hr
  have ri := r.eval ix
  rw [hi] at ri
  have hiv : a.eval ix = .int k z := by cases hv : a.eval ix <;> rw [hv] at ri <;> cases ri <;> rfl
  refine ok_val (u := u) s ?_ h2
  simp [execOp, h, hu, hiv, Instr.index, arrT_run ht, asIntOf, szT_run he, h1, hz]
end
end Go.Proofs.Ytoekncmggjhmjaa
