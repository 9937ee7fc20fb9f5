/- Several texts in one: Eh, Efl, Ecp. -/
import Derived.Test.YtfofhpkafhpicaaGreatDoorMew
import Derived.Laws.IdiomCopy

/- An engine for walks, eighth part: calls by contract. -/
namespace Go.Proofs.YtfofhpkafhpicaaGreatDoor
open Go.RowKit

def hp : List (Nat × AObj) → Heap
  | [] => fun _ => none
  | (k, o) :: l => fun id => if id = k then some o else hp l id

/-- what a call does: out of these arguments and objects, that value and those objects -/
def ACall (P : Program) (g : FuncId) (args : List AV) (H : List (Nat × AObj)) (nx : Nat) (v : AV) (H' : List (Nat × AObj)) (nx' : Nat) : Prop :=
  ∀ (E : Env) (w : World) (vs : Array Value), Sat E nx (hp H) w → Reps E w args vs → Calls P g vs w fun e w' =>
    ∃ E' u, e = .returned u ∧ Sat E' nx' (hp H') w' ∧ Rep E' w' v u ∧ Ext E (hp H) w (fun id => nx ≤ id) E' (hp H') w'

def Env.frz (E : Env) (B : List Nat) : Env := ⟨E.f, fun b => E.I b ∨ ∃ id, id ∈ B ∧ ∃ c sz, E.f id = some (.at_ b c sz)⟩
def dropH (H : Heap) (B : List Nat) : Heap := fun id => if B.contains id then none else H id

section
variable {P : Program} {E : Env} {H : Heap} {w : World} {a : Act} {o : Oper} {nx rid : Nat} {tm : Nat → AV} {N : Nat → Prop}

theorem dropH_some {B : List Nat} {id : Nat} {x : AObj} : dropH H B id = some x ↔ id ∉ B ∧ H id = some x := by
  unfold dropH
  split <;> rename_i h <;> simp at h <;> simp [h]

theorem more_frz (E : Env) (w : World) (B : List Nat) : More E w (E.frz B) w := ⟨fun _ _ h => h, fun _ h => .inl h, fun _ _ => rfl⟩

theorem sat_frz (s : Sat E nx H w) {B : List Nat} (hB : ∀ id ∈ B, ∃ x, H id = some x) : Sat (E.frz B) nx (dropH H B) w ∧ Ext E H w N (E.frz B) (dropH H B) w := by
  have m := more_frz E w B
  refine ⟨⟨fun k x h => ?_, fun k k' x x' b1 c1 z1 c2 z2 h h' => s.inj _ _ _ _ _ _ _ _ _ (dropH_some.1 h).2 (dropH_some.1 h').2, s.fresh, ?_⟩, ?_⟩
  · obtain ⟨e, h1⟩ := dropH_some.1 h
    obtain ⟨q, hq, r⟩ := s.rows _ _ h1
    refine ⟨q, hq, ?_⟩
    cases q with
    | nil => exact r
    | at_ b c z =>
      refine r.more m ?_ rfl
      rintro (hI | ⟨id, hid, c', z', h2⟩)
      · exact r.2.1 hI
      · obtain ⟨x', hx'⟩ := hB id hid
        have := s.inj _ _ _ _ _ _ _ _ _ h1 hx' hq h2
        subst this
        exact e hid
  · rintro b (hI | ⟨id, hid, c', z', h2⟩)
    · exact s.imm b hI
    · obtain ⟨x', hx'⟩ := hB id hid
      exact s.lt hx' h2
  · refine ⟨fun _ _ h => h, fun _ _ h => .inl h, fun _ h => .inl h, ?_, fun _ _ _ => rfl, ?_, Nat.le_refl _, rfl, rfl, rfl⟩
    · rintro b (hI | ⟨id, hid, c', z', h2⟩)
      · exact .inl hI
      · obtain ⟨x', hx'⟩ := hB id hid
        exact .inr (.inr ⟨id, x', c', z', hx', h2⟩)
    · rintro b ⟨k, x, c1, z1, h, hf1⟩
      exact .inl ⟨k, x, c1, z1, (dropH_some.1 h).2, hf1⟩

/-! ### a value seen as another -/
inductive Co0 where
  | keep
  | eq (x : AV)
  | bytes (xs : List UInt8)
  | any
inductive Co1 where
  | c (c : Co0)
  | agg (l : List Co0)
inductive Co2 where
  | c (c : Co1)
  | tup (l : List Co1)

def idOf : AV → Option Nat
  | .sl id _ _ _ => some id
  | .csl id _ _ _ _ => some id
  | _ => none

def inB (B : List Nat) (x : AV) : Bool :=
  match idOf x with
  | some id => B.contains id
  | none => true

def co0 (H : Heap) (B : List Nat) (x : AV) : Co0 → Option (AV × List Prop)
  | .keep => some (x, [])
  | .eq y => some (y, [x = y])
  | .bytes xs =>
    match bytesOf H x with
    | some (ys, p) => if inB B x = true then some (.bytes xs, [p, ys = xs]) else none
    | none => none
  | .any => some (.any, [])

theorem co0_ok {B : List Nat} {x y : AV} {u : Value} {c : Co0} {l : List Prop} (s : Sat E nx H w) (h : co0 H B x c = some (y, l)) (hl : ∀ q ∈ l, q) (r : Rep E w x u) : Rep (E.frz B) w y u := by
  cases c with
  | keep =>
    simp only [co0, Option.some.injEq, Prod.mk.injEq] at h
    obtain ⟨rfl, rfl⟩ := h
    exact r.more (more_frz E w B)
  | eq z =>
    simp only [co0, Option.some.injEq, Prod.mk.injEq] at h
    obtain ⟨rfl, rfl⟩ := h
    have := hl _ (List.mem_singleton.2 rfl)
    subst this
    exact r.more (more_frz E w B)
  | any =>
    simp only [co0, Option.some.injEq, Prod.mk.injEq] at h
    obtain ⟨rfl, rfl⟩ := h
    exact .any _
  | bytes xs =>
    simp only [co0] at h
    split at h
    · rename_i ys p hb
      split at h
      · rename_i hid
        simp only [Option.some.injEq, Prod.mk.injEq] at h
        obtain ⟨rfl, rfl⟩ := h
        have hp : p := hl _ (by simp)
        have he : ys = xs := hl _ (by simp)
        subst he
        obtain ⟨A, n, c, rfl, hr⟩ := rd_of s hb hp r
        refine .bytes hr.len hr.cap hr.max fun h0 => ?_
        obtain ⟨g, o', hA, _, _, hc⟩ := hr.at_ h0
        refine ⟨g, o', hA, ?_, hc⟩
        subst hA
        cases r with
        | val => simp [bytesOf] at hb
        | bytes hn hcc hm hx =>
          obtain ⟨g', o'', e, hI, _⟩ := hx h0
          cases e
          exact .inl hI
        | sl hE hcc hl' hn hA =>
          simp only [inB, idOf] at hid
          rcases hA with hA | hA
          · omega
          · cases hA
            exact .inr ⟨_, by simpa using hid, _, _, hE⟩
        | csl hE hn hm =>
          simp only [inB, idOf] at hid
          exact .inr ⟨_, by simpa using hid, _, _, hE⟩
        | any => simp [bytesOf] at hb
        | view => simp [bytesOf] at hb
        | opt => simp [bytesOf] at hb
      · cases h
    · cases h

def coL {α β γ : Type} (f : α → γ → Option (β × List Prop)) : List α → List γ → Option (List β × List Prop)
  | [], [] => some ([], [])
  | x :: xs, c :: cs =>
    match f x c, coL f xs cs with
    | some (y, l), some (ys, m) => some (y :: ys, l ++ m)
    | _, _ => none
  | _, _ => none

theorem coL_ok {γ : Type} {f : AV → γ → Option (AV × List Prop)} {R : AV → Value → Prop} {R' : AV → Value → Prop} (hf : ∀ x c y l u, f x c = some (y, l) → (∀ q ∈ l, q) → R x u → R' y u) :
    ∀ (xs : List AV) (cs : List γ) (ys : List AV) (m : List Prop), coL f xs cs = some (ys, m) → (∀ q ∈ m, q) → ys.length = xs.length ∧ ∀ (us : Nat → Option Value), (∀ (k : Nat) x u, xs[k]? = some x → us k = some u → R x u) → ∀ (k : Nat) y u, ys[k]? = some y → us k = some u → R' y u
  | [], [], ys, m, h, _ => by
    simp only [coL, Option.some.injEq, Prod.mk.injEq] at h
    obtain ⟨rfl, rfl⟩ := h
    exact ⟨rfl, fun _ _ k y u hy => by simp at hy⟩
  | x :: xs, c :: cs, ys, m, h, hm => by
    simp only [coL] at h
    split at h
    · rename_i y l ys' m' h1 h2
      simp only [Option.some.injEq, Prod.mk.injEq] at h
      obtain ⟨rfl, rfl⟩ := h
      obtain ⟨e1, e2⟩ := coL_ok hf xs cs ys' m' h2 fun q hq => hm q (List.mem_append_right _ hq)
      refine ⟨by simp [e1], fun us hus k z u hz hu => ?_⟩
      cases k with
      | zero =>
        simp at hz
        subst hz
        exact hf _ _ _ _ _ h1 (fun q hq => hm q (List.mem_append_left _ hq)) (hus 0 x u rfl hu)
      | succ k =>
        simp only [List.getElem?_cons_succ] at hz
        exact e2 (fun k => us (k + 1)) (fun k x u hx hu => hus (k + 1) x u (by simpa using hx) hu) k z u hz hu
    · cases h
  | [], _ :: _, _, _, h, _ => by simp [coL] at h
  | _ :: _, [], _, _, h, _ => by simp [coL] at h

def co1 (H : Heap) (B : List Nat) (x : AV) : Co1 → Option (AV × List Prop)
  | .c c => co0 H B x c
  | .agg cs =>
    match aggCells x with
    | some l => (coL (co0 H B) l cs).map fun (ys, m) => (.agg ys, m)
    | none => none

theorem co1_ok {B : List Nat} {x y : AV} {u : Value} {c : Co1} {l : List Prop} (s : Sat E nx H w) (h : co1 H B x c = some (y, l)) (hl : ∀ q ∈ l, q) (r : Rep E w x u) : Rep (E.frz B) w y u := by
  cases c with
  | c c => exact co0_ok s h hl r
  | agg cs =>
    simp only [co1] at h
    split at h
    · rename_i l' hx
      simp only [Option.map_eq_some_iff, Prod.mk.injEq] at h
      obtain ⟨⟨ys, m⟩, h1, rfl, rfl⟩ := h
      obtain ⟨arr, rfl, hn, hr⟩ := aggCells_rep hx r
      obtain ⟨e1, e2⟩ := coL_ok (R := Rep E w) (R' := Rep (E.frz B) w) (fun x c y l u h hl r => co0_ok s h hl r) _ _ _ _ h1 hl
      exact .agg (by rw [hn, e1]) fun k a v ha hv => e2 (fun k => arr[k]?) (fun k x u hx hu => hr k x u hx hu) k a v ha hv
    · cases h

def co2 (H : Heap) (B : List Nat) (x : AV) : Co2 → Option (AV × List Prop)
  | .c c => co1 H B x c
  | .tup cs =>
    match x with
    | .tup l => (coL (co1 H B) l cs).map fun (ys, m) => (.tup ys, m)
    | _ => none

theorem co2_ok {B : List Nat} {x y : AV} {u : Value} {c : Co2} {l : List Prop} (s : Sat E nx H w) (h : co2 H B x c = some (y, l)) (hl : ∀ q ∈ l, q) (r : Rep E w x u) : Rep (E.frz B) w y u := by
  cases c with
  | c c => exact co1_ok s h hl r
  | tup cs =>
    simp only [co2] at h
    split at h
    · rename_i l'
      simp only [Option.map_eq_some_iff, Prod.mk.injEq] at h
      obtain ⟨⟨ys, m⟩, h1, rfl, rfl⟩ := h
      cases r with
      | tup hn hr =>
        obtain ⟨e1, e2⟩ := coL_ok (R := Rep E w) (R' := Rep (E.frz B) w) (fun x c y l u h hl r => co1_ok s h hl r) _ _ _ _ h1 hl
        exact .tup (by rw [hn, e1]) fun k a v ha hv => e2 _ hr k a v ha hv
    · cases h

/-! ### the call -/
def callable (P : Program) (g : FuncId) : Bool :=
  match P.funcs[g]? with
  | some fn => fn.body.isSome && fn.name != "runtime.NumGoroutine"
  | none => false

theorem call_run {f : Operand} {args : Array Operand} {ts : Array TypeId} {g : FuncId} {cap : Array Value} (h : o.op = .call { callee := .value f, args := args, argTypes := ts }) (hf : a.eval f = .func (.func g) #[] cap) (hc : callable P g = true) :
    (execOp a.eval o).run P w = .ok (.enter g (args.map a.eval ++ cap)) w := by
  unfold callable at hc
  split at hc
  · rename_i fn hfn
    simp only [Bool.and_eq_true, bne_iff_ne, ne_eq] at hc
    obtain ⟨h1, h2⟩ := hc
    obtain ⟨b, hb⟩ := Option.isSome_iff_exists.1 h1
    simp [execOp, h, resolve, hf, Deferred.ofValue, invoke, callFunc, program, Sem.run, hfn, h2, hb]
  · cases hc

/-! ### what a call has left as it was -/
def valEq : Value → Value → Bool
  | .bool a, .bool b => a == b
  | .int k a, .int k' b => k == k' && a == b
  | .string a, .string b => decide (a = b)
  | .pointer none, .pointer none => true
  | .slice none n c, .slice none m d => n == m && c == d
  | _, _ => false

theorem valEq_ok {a b : Value} (h : valEq a b = true) : a = b := by
  unfold valEq at h
  split at h <;> simp_all

def avEq : AV → AV → Bool
  | .val a, .val b => valEq a b
  | .any, .any => true
  | .ptr a b c, .ptr d e f => a == d && (b == e && c == f)
  | .sl a b c d, .sl e f g h => a == e && (b == f && (c == g && d == h))
  | .csl a b c d x, .csl e f g h y => a == e && (b == f && (c == g && (d == h && x == y)))
  | .bytes a, .bytes b => a == b
  | _, _ => false

theorem avEq_ok {a b : AV} (h : avEq a b = true) : a = b := by
  unfold avEq at h
  split at h <;> simp_all
  exact valEq_ok h

def listEq {α : Type} (f : α → α → Bool) : List α → List α → Bool
  | [], [] => true
  | x :: xs, y :: ys => f x y && listEq f xs ys
  | _, _ => false

theorem listEq_ok {α : Type} {f : α → α → Bool} (hf : ∀ a b, f a b = true → a = b) : ∀ (l m : List α), listEq f l m = true → l = m
  | [], [], _ => rfl
  | x :: xs, y :: ys, h => by
    simp only [listEq, Bool.and_eq_true] at h
    rw [hf _ _ h.1, listEq_ok hf xs ys h.2]
  | [], _ :: _, h => by simp [listEq] at h
  | _ :: _, [], h => by simp [listEq] at h

def bodyEq : Body → Body → Bool
  | .rows l, .rows m => listEq (listEq avEq) l m
  | .bytes a, .bytes b => a == b
  | _, _ => false

theorem bodyEq_ok {a b : Body} (h : bodyEq a b = true) : a = b := by
  unfold bodyEq at h
  split at h
  · rw [listEq_ok (fun a b h => listEq_ok (fun a b h => avEq_ok h) a b h) _ _ h]
  · simp at h; rw [h]
  · cases h

def objEq (x y : AObj) : Bool := x.t == y.t && (x.sz == y.sz && (x.exact == y.exact && (x.fz == y.fz && bodyEq x.body y.body)))
theorem objEq_ok {x y : AObj} (h : objEq x y = true) : x = y := by
  obtain ⟨a, b, c, d, e⟩ := x
  obtain ⟨a', b', c', d', e'⟩ := y
  simp only [objEq, Bool.and_eq_true, beq_iff_eq] at h
  obtain ⟨rfl, rfl, rfl, rfl, h⟩ := h
  rw [bodyEq_ok h]

/-- has it turned? -/
def turned (H : Heap) (H' : List (Nat × AObj)) (id : Nat) : Bool :=
  match H id, hp H' id with
  | some x, some y => !(objEq x y)
  | _, _ => true

theorem turned_ok {H : Heap} {H' : List (Nat × AObj)} {id : Nat} (h : turned H H' id = false) : ∃ x, H id = some x ∧ hp H' id = some x := by
  unfold turned at h
  split at h
  · rename_i x y h1 h2
    simp only [Bool.not_eq_eq_eq_not, Bool.not_false] at h
    rw [objEq_ok h] at h1
    exact ⟨y, h1, h2⟩
  · cases h

/-- what has turned behind a call -/
def callUs (cmp : Bool) (H : Heap) (B R : List Nat) (H' : List (Nat × AObj)) : List (Nat × Option AObj) := B.map (fun id => (id, none)) ++ ((R ++ (H'.map (·.1)).filter fun id => !R.contains id).filter fun id => !cmp || turned H H' id).map fun id => (id, hp H' id)

theorem applyU_cases : ∀ (us : List (Nat × Option AObj)) (H : Heap) (k : Nat), (∃ x, (k, x) ∈ us ∧ applyU H us k = x) ∨ ((∀ x, (k, x) ∉ us) ∧ applyU H us k = H k)
  | [], H, k => .inr ⟨fun x => by simp, rfl⟩
  | (i, x) :: us, H, k => by
    have : applyU H ((i, x) :: us) = applyU (upd H i x) us := rfl
    rw [this]
    rcases applyU_cases us (upd H i x) k with ⟨y, h1, h2⟩ | ⟨h1, h2⟩
    · exact .inl ⟨y, List.mem_cons_of_mem _ h1, h2⟩
    · by_cases e : k = i
      · subst e
        exact .inl ⟨x, List.mem_cons_self, by rw [h2, upd_same]⟩
      · refine .inr ⟨fun y hy => ?_, by rw [h2, upd_other _ _ e]⟩
        rcases List.mem_cons.1 hy with hy | hy
        · cases hy; exact e rfl
        · exact h1 y hy

/-- the objects of these numbers -/
def pickH (H : Heap) : List Nat → Option (List (Nat × AObj))
  | [] => some []
  | k :: R =>
    match H k, pickH H R with
    | some x, some l => some ((k, x) :: l)
    | _, _ => none

theorem pickH_ok : ∀ (R : List Nat) (l : List (Nat × AObj)), pickH H R = some l → (∀ k x, hp l k = some x → H k = some x) ∧ ∀ k, k ∉ R → hp l k = none
  | [], l, h => by
    simp only [pickH, Option.some.injEq] at h
    subst h
    exact ⟨fun k x hk => by simp [hp] at hk, fun k _ => rfl⟩
  | i :: R, l, h => by
    simp only [pickH] at h
    split at h
    · rename_i x l' h1 h2
      injection h with h
      subst h
      obtain ⟨e1, e2⟩ := pickH_ok R l' h2
      refine ⟨fun k y hk => ?_, fun k hk => ?_⟩
      · simp only [hp] at hk
        split at hk
        · rename_i e; subst e; rw [h1]; exact hk
        · exact e1 k y hk
      · simp only [List.mem_cons, not_or] at hk
        simp only [hp]
        rw [if_neg hk.1]
        exact e2 k hk.2
    · cases h

theorem coL_keep (H : Heap) (B : List Nat) : ∀ xs : List AV, coL (co1 H B) xs (xs.map fun _ => .c .keep) = some (xs, [])
  | [] => rfl
  | x :: xs => by simp [coL, co1, co0, coL_keep H B xs]

theorem dropH_nil (H : Heap) : dropH H [] = H := by
  funext id
  simp [dropH]

theorem hp_ids : ∀ (L : List (Nat × AObj)) (k : Nat), k ∉ L.map (·.1) → hp L k = none
  | [], _, _ => rfl
  | (i, x) :: L, k, h => by
    simp only [List.map_cons, List.mem_cons, not_or] at h
    simp only [hp]
    rw [if_neg h.1]
    exact hp_ids L k h.2

theorem ok_call {cmp : Bool} {f : Operand} {args : Array Operand} {ts : Array TypeId} {g : FuncId} {caps : List AV} {B R : List Nat} {cs : List Co1} {xs : List AV} {obs : List Prop} {Hf Hf' : List (Nat × AObj)} {v : AV} {nx' : Nat}
    (s : Sat E nx H w) (r : RepT E w tm a) (h : o.op = .call { callee := .value f, args := args, argTypes := ts }) (hf : avOf tm f = .fn (.func g) caps) (hc : callable P g = true)
    (hB : ∀ id ∈ B, ∃ x, H id = some x) (hco : coL (co1 H B) (args.toList.map (avOf tm) ++ caps) cs = some (xs, obs)) (hobs : ∀ q ∈ obs, q) (e1 : ∀ k x, hp Hf k = some x → dropH H B k = some x) (e2 : ∀ k, k ∉ R → hp Hf k = none) (hcall : ACall P g xs Hf nx v Hf' nx') (hle : nx ≤ nx') :
    OpOk P o E H a w rid nx ⟨v, callUs cmp H B R Hf', nx'⟩ := by
  have rf := r.eval f
  rw [hf] at rf
  generalize hu : a.eval f = u at rf
  cases rf with
  | fn hn hr =>
    rename_i capv
    obtain ⟨s1, x1⟩ := sat_frz (N := fun id => id = rid ∨ nx ≤ id) s hB
    refine .enter g (args.map a.eval ++ capv) w (call_run h hu hc) ?_
    obtain ⟨l1, l2⟩ := coL_ok (R := Rep E w) (R' := Rep (E.frz B) w) (fun x c y l u h hl r => co1_ok s h hl r) _ _ _ _ hco hobs
    have hreps : Reps (E.frz B) w xs (args.map a.eval ++ capv) := by
      refine ⟨by simp [l1, hn], fun k b v hb hv => l2 (fun k => (args.map a.eval ++ capv)[k]?) (fun k x u hx hu' => ?_) k b v hb hv⟩
      by_cases hk : k < args.size
      · rw [List.getElem?_append_left (by simpa using hk)] at hx
        rw [Array.getElem?_append_left (by simpa using hk)] at hu'
        simp [hk] at hx hu'
        subst hx hu'
        exact r.eval _
      · rw [List.getElem?_append_right (by simp; omega)] at hx
        rw [Array.getElem?_append_right (by simp; omega)] at hu'
        simp at hx hu'
        exact hr _ _ _ hx hu'
    refine Calls.mono (hcall (E.frz B) w _ (s1.sub e1) hreps) fun e w' hh => ?_
    obtain ⟨E', u', rfl, t1, t2, t3⟩ := hh
    refine ⟨E', u', rfl, ?_⟩
    have hK : ∀ id x, applyU H (callUs cmp H B R Hf') id = some x → hp Hf' id = some x ∨ (dropH H B id = some x ∧ hp Hf id = none) := by
      intro id x hx
      rcases applyU_cases (callUs cmp H B R Hf') H id with ⟨y, h1, h2⟩ | ⟨h1, h2⟩
      · rw [hx] at h2
        subst h2
        simp only [callUs, List.mem_append, List.mem_map, Prod.mk.injEq] at h1
        rcases h1 with ⟨_, _, _, h1⟩ | ⟨k, _, rfl, h1⟩
        · cases h1
        · exact .inl h1
      · rw [hx] at h2
        by_cases hR : id ∈ R
        · by_cases ht : (!cmp || turned H Hf' id) = true
          · refine absurd ?_ (h1 (hp Hf' id))
            simp only [callUs, List.mem_append, List.mem_map]
            exact .inr ⟨id, List.mem_filter.2 ⟨List.mem_append_left _ hR, ht⟩, rfl⟩
          · obtain ⟨y, g1, g2⟩ := turned_ok (H := H) (H' := Hf') (id := id) (by simp only [Bool.or_eq_true, not_or, Bool.not_eq_true] at ht; exact ht.2)
            left
            rw [g2, ← g1, ← h2]
        · right
          refine ⟨dropH_some.2 ⟨fun hb => h1 none ?_, h2.symm⟩, e2 id hR⟩
          simp only [callUs, List.mem_append, List.mem_map]
          exact .inl ⟨id, hb, rfl⟩
    have hfr := Sat.frame s1 e1 t3 t1 hK
    exact ⟨hfr.1, t2, x1.trans hfr.2 (fun _ h => h) (fun id h => .inr h), hle⟩

/-- a call that but reads, and yields a plain value: what it reads goes on as it was -/
theorem ok_callB {f : Operand} {args : Array Operand} {ts : Array TypeId} {g : FuncId} {caps : List AV} {B : List Nat} {cs : List Co1} {xs : List AV} {obs : List Prop} {v : Value} {nx' : Nat}
    (s : Sat E nx H w) (r : RepT E w tm a) (h : o.op = .call { callee := .value f, args := args, argTypes := ts }) (hf : avOf tm f = .fn (.func g) caps) (hc : callable P g = true)
    (hB : ∀ id ∈ B, ∃ x, H id = some x) (hco : coL (co1 H B) (args.toList.map (avOf tm) ++ caps) cs = some (xs, obs)) (hobs : ∀ q ∈ obs, q) (hcall : ACall P g xs [] nx (.val v) [] nx') (hle : nx ≤ nx') :
    OpOk P o E H a w rid nx ⟨.val v, [], nx'⟩ := by
  have rf := r.eval f
  rw [hf] at rf
  generalize hu : a.eval f = u at rf
  cases rf with
  | fn hn hr =>
    rename_i capv
    obtain ⟨s1, x1⟩ := sat_frz (N := fun id => id = rid ∨ nx ≤ id) s hB
    refine .enter g (args.map a.eval ++ capv) w (call_run h hu hc) ?_
    obtain ⟨l1, l2⟩ := coL_ok (R := Rep E w) (R' := Rep (E.frz B) w) (fun x c y l u h hl r => co1_ok s h hl r) _ _ _ _ hco hobs
    have hreps : Reps (E.frz B) w xs (args.map a.eval ++ capv) := by
      refine ⟨by simp [l1, hn], fun k b v hb hv => l2 (fun k => (args.map a.eval ++ capv)[k]?) (fun k x u hx hu' => ?_) k b v hb hv⟩
      by_cases hk : k < args.size
      · rw [List.getElem?_append_left (by simpa using hk)] at hx
        rw [Array.getElem?_append_left (by simpa using hk)] at hu'
        simp [hk] at hx hu'
        subst hx hu'
        exact r.eval _
      · rw [List.getElem?_append_right (by simp; omega)] at hx
        rw [Array.getElem?_append_right (by simp; omega)] at hu'
        simp at hx hu'
        exact hr _ _ _ hx hu'
    refine Calls.mono (hcall (E.frz B) w _ (s1.sub fun id x h => by simp [hp] at h) hreps) fun e w' hh => ?_
    obtain ⟨E', u', rfl, t1, t2, t3⟩ := hh
    have ht2 := t2.val_inv
    subst ht2
    have hmem : ∀ k, k < w.heap.size → w'.heap[k]? = w.heap[k]? := fun k hk => t3.fr k hk fun ⟨id, x, c, z, h1, _⟩ => by simp [hp] at h1
    let E'' : Env := ⟨E'.f, fun b => E'.I b ∧ ¬ ∃ id, id ∈ B ∧ ∃ c sz, E.f id = some (.at_ b c sz)⟩
    have notB : ∀ b, E.I b → ¬ ∃ id, id ∈ B ∧ ∃ c sz, E.f id = some (.at_ b c sz) := by
      rintro b hI ⟨id, hid, c, sz, hE⟩
      obtain ⟨x, hx⟩ := hB id hid
      exact s.notI ⟨id, x, c, sz, hx, hE⟩ hI
    have hII : ∀ b, E''.I b → E.I b ∨ w.heap.size ≤ b := by
      rintro b ⟨h1, h2⟩
      rcases t3.I' b h1 with (h | h) | h | ⟨id, x, c, z, h3, _⟩
      · exact .inl h
      · exact absurd h h2
      · exact .inr h
      · simp [hp] at h3
    have m : More E w E'' w' := ⟨fun id p h => t3.f _ _ h, fun b h => ⟨t3.I _ (.inl h), notB b h⟩, fun b h => hmem b (s.imm b h)⟩
    refine ⟨E'', _, rfl, ⟨⟨fun id x hx => ?_, fun id id' x x' b c1 z1 c2 z2 h1 h2 hf1 hf2 => ?_, t1.fresh, fun b hb => t1.imm b hb.1⟩, .val _, ?_, hle⟩⟩
    · obtain ⟨p, hp', rr⟩ := s.rows _ _ hx
      refine ⟨p, t3.f _ _ hp', ?_⟩
      cases p with
      | nil => exact rr
      | at_ b c z =>
        have hlt := s.lt hx hp'
        refine rr.more m (fun hI => ?_) (hmem b hlt)
        rcases hII b hI with hh | hh
        · exact rr.2.1 hh
        · omega
    · obtain ⟨p, hp1, _⟩ := s.rows _ _ h1
      obtain ⟨q, hq1, _⟩ := s.rows _ _ h2
      have g1 := t3.f _ _ hp1
      have g2 := t3.f _ _ hq1
      have hf1' : E'.f id = some (.at_ b c1 z1) := hf1
      have hf2' : E'.f id' = some (.at_ b c2 z2) := hf2
      rw [hf1'] at g1
      rw [hf2'] at g2
      cases g1
      cases g2
      exact s.inj _ _ _ _ _ _ _ _ _ h1 h2 hp1 hq1
    · refine ⟨m.f, fun id p h => (t3.nw _ _ h).imp (fun h => h) fun h => .inr h, m.I, fun b hb => (hII b hb).imp (fun h => h) .inl, fun b hb _ => hmem b hb, ?_, t3.size, t3.os, t3.tape, t3.output⟩
      rintro b ⟨id, x, c, z, h1, h2⟩
      obtain ⟨p, hp', _⟩ := s.rows _ _ h1
      have g1 := t3.f _ _ hp'
      have h2' : E'.f id = some (.at_ b c z) := h2
      rw [h2'] at g1
      cases g1
      exact .inl ⟨id, x, c, z, h1, hp'⟩
end
end Go.Proofs.YtfofhpkafhpicaaGreatDoor

/- An engine for walks: rows whose values lead to no object of the walk's own ('flat'): what is reckoned of rows is reckoned of them. -/
namespace Go.Proofs.YtfofhpkafhpicaaGreatDoor
open Go.RowKit

structure AObj.Eqv (x y : AObj) : Prop where
  t : y.t = x.t
  sz : y.sz = x.sz
  exact : y.exact = x.exact
  fz : y.fz = x.fz
  len : y.body.len = x.body.len
  cell : ∀ i j, y.body.cell? i j = x.body.cell? i j

theorem AObj.Eqv.refl (x : AObj) : x.Eqv x := ⟨rfl, rfl, rfl, rfl, rfl, fun _ _ => rfl⟩
theorem AObj.Eqv.symm {x y : AObj} (h : x.Eqv y) : y.Eqv x := ⟨h.t.symm, h.sz.symm, h.exact.symm, h.fz.symm, h.len.symm, fun i j => (h.cell i j).symm⟩

def AObj.unflat : AObj → AObj
  | ⟨t, sz, ex, fz, .flat l⟩ => ⟨t, sz, ex, fz, .rows l⟩
  | ⟨t, sz, ex, fz, .rows l⟩ => ⟨t, sz, ex, fz, .rows l⟩
  | ⟨t, sz, ex, fz, .bytes l⟩ => ⟨t, sz, ex, fz, .bytes l⟩
def AObj.flatO : AObj → AObj
  | ⟨t, sz, ex, fz, .rows l⟩ => ⟨t, sz, ex, fz, .flat l⟩
  | ⟨t, sz, ex, fz, .flat l⟩ => ⟨t, sz, ex, fz, .flat l⟩
  | ⟨t, sz, ex, fz, .bytes l⟩ => ⟨t, sz, ex, fz, .bytes l⟩
def AObj.isFlat (x : AObj) : Bool := match x.body with | .flat _ => true | _ => false

theorem AObj.unflat_eqv (x : AObj) : x.Eqv x.unflat := by
  obtain ⟨t, sz, ex, fz, body⟩ := x
  cases body <;> exact ⟨rfl, rfl, rfl, rfl, rfl, fun _ _ => rfl⟩
theorem AObj.flatO_eqv (x : AObj) : x.Eqv x.flatO := by
  obtain ⟨t, sz, ex, fz, body⟩ := x
  cases body <;> exact ⟨rfl, rfl, rfl, rfl, rfl, fun _ _ => rfl⟩

def unflatH (H : Heap) : Heap := fun id => (H id).map AObj.unflat
def reflat : Bool → List (Nat × Option AObj) → List (Nat × Option AObj)
  | false, us => us
  | true, us => us.map fun u => (u.1, u.2.map AObj.flatO)
def anyFlat (H : Heap) (us : List (Nat × Option AObj)) : Bool := us.any fun u => match H u.1 with | some x => x.isFlat | none => false

def OEqv : Option AObj → Option AObj → Prop
  | none, none => True
  | some x, some y => x.Eqv y
  | _, _ => False
def HEqv (H K : Heap) : Prop := ∀ id, OEqv (H id) (K id)

theorem OEqv.refl : ∀ x : Option AObj, OEqv x x
  | none => trivial
  | some x => AObj.Eqv.refl x
theorem OEqv.symm {x y : Option AObj} (h : OEqv x y) : OEqv y x := by
  cases x <;> cases y <;> first | exact h | exact h.elim | exact AObj.Eqv.symm h
theorem HEqv.symm {H K : Heap} (h : HEqv H K) : HEqv K H := fun id => (h id).symm
theorem OEqv.some_inv {x : Option AObj} {y : AObj} (h : OEqv x (some y)) : ∃ z, x = some z ∧ z.Eqv y := by
  cases x with
  | none => exact h.elim
  | some z => exact ⟨z, rfl, h⟩

theorem unflatH_eqv (H : Heap) : HEqv H (unflatH H) := fun id => by
  unfold unflatH
  cases H id with
  | none => trivial
  | some x => exact x.unflat_eqv

theorem reflat_eqv (b : Bool) (us : List (Nat × Option AObj)) : ∀ {H K : Heap}, HEqv H K → HEqv (applyU H us) (applyU K (reflat b us)) := by
  cases b with
  | false =>
    induction us with
    | nil => intro H K h; exact h
    | cons u us ih =>
      intro H K h
      exact ih (H := upd H u.1 u.2) (K := upd K u.1 u.2) fun id => by
        unfold upd
        split
        · exact OEqv.refl _
        · exact h id
  | true =>
    induction us with
    | nil => intro H K h; exact h
    | cons u us ih =>
      intro H K h
      exact ih (H := upd H u.1 u.2) (K := upd K u.1 (u.2.map AObj.flatO)) fun id => by
        unfold upd
        split
        · cases u.2 with
          | none => trivial
          | some x => exact x.flatO_eqv
        · exact h id

section
variable {P : Program} {E E' : Env} {H K H' K' : Heap} {w w' : World} {nx : Nat} {N : Nat → Prop}

theorem ORep.eqv {x y : AObj} (h : x.Eqv y) {p : Place} (r : ORep E w x p) : ORep E w y p := by
  cases p with
  | nil =>
    obtain ⟨h1, h2⟩ := r
    exact ⟨by rw [h.len]; exact h1, by rw [h.exact]; exact h2⟩
  | at_ b c sz =>
    obtain ⟨h1, h2, h3, h4, h5, cur, fr, h6, h7, h8, h9⟩ := r
    refine ⟨by rw [h.sz]; exact h1, h2, by rw [h.len]; exact h3, h4, by rw [h.exact, h.len]; exact h5, cur, fr, by rw [h.t]; exact h6, h7, by rw [h.fz]; exact h8, fun i hi j hj => ?_⟩
    obtain ⟨a, v, e1, e2, e3⟩ := h9 i (by rw [← h.len]; exact hi) j hj
    exact ⟨a, v, by rw [h.cell]; exact e1, e2, e3⟩

theorem Sat.eqv (s : Sat E nx H w) (h : HEqv H K) : Sat E nx K w := by
  have key : ∀ id y, K id = some y → ∃ x, H id = some x ∧ x.Eqv y := fun id y hy => by
    have := h id
    rw [hy] at this
    exact this.some_inv
  refine ⟨fun id y hy => ?_, fun id id' y y' b c z c' z' h1 h2 => ?_, s.fresh, s.imm⟩
  · obtain ⟨x, hx, e⟩ := key id y hy
    obtain ⟨p, hp, r⟩ := s.rows _ _ hx
    exact ⟨p, hp, r.eqv e⟩
  · obtain ⟨x, hx, _⟩ := key _ _ h1
    obtain ⟨x', hx', _⟩ := key _ _ h2
    exact s.inj _ _ _ _ _ _ _ _ _ hx hx'

theorem Hb.eqv (h : HEqv H K) {b : Nat} (hb : Hb E K b) : Hb E H b := by
  obtain ⟨id, y, c, sz, h1, h2⟩ := hb
  have := h id
  rw [h1] at this
  obtain ⟨x, hx, _⟩ := this.some_inv
  exact ⟨id, x, c, sz, hx, h2⟩

theorem Ext.eqv (x : Ext E H w N E' H' w') (h : HEqv H K) (h' : HEqv H' K') : Ext E K w N E' K' w' :=
  ⟨x.f, x.nw, x.I, fun b hb => (x.I' b hb).imp_right fun y => y.imp_right (Hb.eqv h.symm), fun b h1 h2 => x.fr b h1 fun hb => h2 (Hb.eqv h.symm hb), fun b hb => (x.hb b (Hb.eqv h' hb)).imp_left (Hb.eqv h.symm), x.size, x.os, x.tape, x.output⟩

theorem Post.eqv {rid nx : Nat} {v : AV} {us us' : List (Nat × Option AObj)} {n : Nat} {u : Value} (p : Post E H w rid nx ⟨v, us, n⟩ E' w' u) (h : HEqv H K) (h' : HEqv (applyU H us) (applyU K us')) : Post E K w rid nx ⟨v, us', n⟩ E' w' u :=
  ⟨p.sat.eqv h', p.rep, p.ext.eqv h h', p.le⟩

theorem OpOk.eqv {o : Oper} {a : Act} {rid nx : Nat} {v : AV} {us us' : List (Nat × Option AObj)} {n : Nat} (ok : OpOk P o E H a w rid nx ⟨v, us, n⟩) (h : HEqv H K) (h' : HEqv (applyU H us) (applyU K us')) : OpOk P o E K a w rid nx ⟨v, us', n⟩ := by
  cases ok with
  | value E' w' u hr p => exact .value E' w' u hr (p.eqv h h')
  | skip E' w' hr p => exact .skip E' w' hr (p.eqv h h')
  | enter g args w1 hr c => exact .enter g args w1 hr (Calls.mono c fun e w' ⟨E', u, he, p⟩ => ⟨E', u, he, p.eqv h h'⟩)
end
end Go.Proofs.YtfofhpkafhpicaaGreatDoor

/- An engine for walks: copy of bytes, into bytes or into cells of a row. -/
namespace Go.Proofs.YtfofhpkafhpicaaGreatDoor
open Go.RowKit

section
variable {P : Program} {E : Env} {H : Heap} {w : World} {a : Act} {o : Oper} {nx rid : Nat} {tm : Nat → AV}

theorem copy_run {x y : Operand} {t t' e : TypeId} {b k0 n cp k : Nat} {A : Option Addr} {m c : Nat} {xs : List UInt8} (h : o.op = .call { callee := .builtin .copy, args := #[x, y], argTypes := #[t, t'] }) (T : ByteTy P t e)
    (hx : a.eval x = .slice (some ⟨b, k0, none⟩) n cp) (hy : a.eval y = .slice A m c) (rd : Rd w 0 w.heap.size A m c xs) (hk : k = Nat.min m n) (h0 : 0 < k)
    (hc : ∀ j, j < k → (w.cell? ⟨b, k0 + j, none⟩).isSome = true ∧ w.frozen? ⟨b, k0 + j, none⟩ = false) :
    (execOp a.eval o).run P w = .ok (.value (goInt k)) (w.setCells b k0 ((xs.take k).map bv)) := by
  have hi : (P.info? e).map (·.size) = some 1 := by
    have := T.hi
    cases hq : P.info? e with
    | none => simp [hq] at this
    | some i => simp [hq] at this; simp [this]
  have hm : k ≤ m := by rw [hk]; exact Nat.min_le_left _ _
  obtain ⟨g, o', rfl, _, _, hcell⟩ := rd.at_ (by omega)
  have hl : ((xs.take k).map bv).length = k := by simp [rd.len]; omega
  have hrun := run_copy_cells (P := P) w t t' o.type e b k0 n cp ⟨g, o', none⟩ m c ((xs.take k).map bv) T.ht hi (by rw [hl]; exact hk)
    (fun j v hj => by
      rw [add_zero_spot]
      rw [List.getElem?_map, List.getElem?_take] at hj
      split at hj
      · obtain ⟨z, hz, rfl⟩ := Option.map_eq_some_iff.1 hj
        exact hcell j z hz
      · simp at hj)
    (fun j hj => (hc j (by rw [hl] at hj; exact hj)).1) (fun j hj => (hc j (by rw [hl] at hj; exact hj)).2) (fun v hv => by
      obtain ⟨z, _, rfl⟩ := List.mem_map.1 hv
      rfl)
  rw [hl] at hrun
  simp [execOp, h, resolve, invoke, builtin, hx, hy, hrun]

theorem getElem?_over {α : Type} (ys xs : List α) (off i : Nat) (h : off + xs.length ≤ ys.length) : (ys.take off ++ (xs ++ ys.drop (off + xs.length)))[i]? = if off ≤ i ∧ i < off + xs.length then xs[i - off]? else ys[i]? := by
  by_cases h1 : i < off
  · rw [if_neg (by omega), List.getElem?_append_left (by simp; omega), List.getElem?_take, if_pos h1]
  · have ht : (ys.take off).length = off := by simp; omega
    rw [List.getElem?_append_right (by omega), ht]
    by_cases h2 : i < off + xs.length
    · rw [if_pos ⟨by omega, h2⟩, List.getElem?_append_left (by omega)]
    · rw [if_neg (by omega), List.getElem?_append_right (by omega), List.getElem?_drop]
      congr 1
      omega

theorem ok_copyB {x y : Operand} {t t' e : TypeId} {id off n : Nat} {lim : Option Nat} {ob : AObj} {ys xs : List UInt8} {p : Prop} (s : Sat E nx H w) (r : RepT E w tm a) (h : o.op = .call { callee := .builtin .copy, args := #[x, y], argTypes := #[t, t'] })
    (ht : elemT P t = some e) (hb : byteTB P e = true) (hx : avOf tm x = .sl id off n lim) (hid : H id = some ob) (hob : ob.body = .bytes ys) (hsz1 : ob.sz = 1)
    (hy : bytesOf H (avOf tm y) = some (xs, p)) (hp : p) (h0 : 0 < xs.length) (hn : xs.length ≤ n) (hfit : off + xs.length ≤ ys.length) :
    OpOk P o E H a w rid nx ⟨.val (goInt xs.length), [(id, some { ob with body := .bytes (ys.take off ++ (xs ++ ys.drop (off + xs.length))) })], nx⟩ := by
  obtain ⟨A1, m, c1, hv, hrd⟩ := rd_of s hy hp (r.eval y)
  have hm := hrd.len
  have rx := r.eval x
  rw [hx] at rx
  generalize hu : a.eval x = u at rx
  cases rx with
  | slnil hE hl => omega
  | sl hE hc hl hn' hA =>
    rename_i b c sz cap A
    have ro := s.at_ hid hE
    have hsz : sz = ob.sz := ro.1
    obtain rfl : sz = 1 := by omega
    obtain rfl := hA.resolve_left (by omega)
    have hlc : ys.length ≤ c := by have := ro.2.2.1; rw [hob] at this; exact this
    have hrun := copy_run (b := b) (k0 := off * 1) (k := xs.length) h (byteTB_ok hb ht) hu hv hrd (by rw [← hm]; exact (Nat.min_eq_left hn).symm) h0 (fun j hj => ro.writable (by omega))
    obtain ⟨_, _, _, _, hex, cur, fr, hg, hcs, hfr, hcell⟩ := ro
    rw [List.take_of_length_le (Nat.le_refl _)] at hrun
    obtain ⟨cur', g1, g2, g3, g4, g5, gm⟩ := setCells_spec b ob.t fr (xs.map bv) (off * 1) cur w hg
    have hlen : (ys.take off ++ (xs ++ ys.drop (off + xs.length))).length = ys.length := by simp; omega
    have hset := sat_set (w' := w.setCells b (off * 1) (xs.map bv)) (N := fun id => id = rid ∨ nx ≤ id) (o' := { ob with body := .bytes (ys.take off ++ (xs ++ ys.drop (off + xs.length))) }) s hid hE g1 g4 g5 gm hsz (by rw [g2]; exact hcs)
      (by show (ys.take off ++ (xs ++ ys.drop (off + xs.length))).length ≤ c; rw [hlen]; exact hlc)
      (fun hh => by have := hex hh; rw [hob] at this; show c = (ys.take off ++ (xs ++ ys.drop (off + xs.length))).length; rw [hlen]; exact this) hfr (by
        intro i' hi' j' hj'
        simp only [Body.len] at hi'
        rw [hlen] at hi'
        obtain rfl : j' = 0 := by omega
        rw [g3]
        obtain ⟨a', v', e1, e2, e3⟩ := hcell i' (by rw [hob]; exact hi') 0 hj'
        rw [hob] at e1
        simp only [Body.cell?, if_true] at e1 ⊢
        rw [getElem?_over _ _ _ _ hfit]
        by_cases hii : off ≤ i' ∧ i' < off + xs.length
        · have hlt : i' - off < xs.length := by omega
          rw [if_pos hii, if_pos ⟨by omega, by simp; omega, by omega⟩]
          exact ⟨.val (bv xs[i' - off]), bv xs[i' - off], by simp [List.getElem?_eq_getElem hlt], by simp [hlt], .val _⟩
        · rw [if_neg hii, if_neg (by simp; omega)]
          exact ⟨a', v', e1, e2, e3⟩)
    exact .value E _ _ hrun ⟨hset.1, .val _, hset.2, Nat.le_refl _⟩

theorem ok_copyR {x y : Operand} {t t' e : TypeId} {id i j n c0 : Nat} {ob : AObj} {l : List (List AV)} {el : List AV} {xs : List UInt8} {p : Prop} (s : Sat E nx H w) (r : RepT E w tm a) (h : o.op = .call { callee := .builtin .copy, args := #[x, y], argTypes := #[t, t'] })
    (ht : elemT P t = some e) (hb : byteTB P e = true) (hx : avOf tm x = .csl id i j n c0) (hid : H id = some ob) (hob : ob.body = .rows l) (hi : l[i]? = some el) (he : el.length = ob.sz) (hj : j + n ≤ ob.sz)
    (hy : bytesOf H (avOf tm y) = some (xs, p)) (hp : p) (h0 : 0 < n) (hn : n ≤ xs.length) :
    OpOk P o E H a w rid nx ⟨.val (goInt n), [(id, some { ob with body := .rows (l.set i (splice el j ((List.range n).map fun k => .val (bv (xs.getD k 0))))) })], nx⟩ := by
  obtain ⟨A1, m, c1, hv, hrd⟩ := rd_of s hy hp (r.eval y)
  have hm := hrd.len
  have rx := r.eval x
  rw [hx] at rx
  generalize hu : a.eval x = u at rx
  cases rx with
  | csl hE hn' hmx =>
    rename_i b c sz
    have ro := s.at_ hid hE
    have hsz : sz = ob.sz := ro.1
    have hil : i < l.length := (List.getElem?_eq_some_iff.1 hi).1
    have hic : i < c := Nat.lt_of_lt_of_le (by rw [hob]; exact hil) ro.2.2.1
    have hrun := copy_run (b := b) (k0 := i * sz + j) (k := n) h (byteTB_ok hb ht) hu hv hrd (by rw [← hm]; exact (Nat.min_eq_right hn).symm) h0 (fun k hk => ro.writable (by rw [Nat.add_assoc]; exact flat_lt (by omega) hic))
    obtain ⟨_, _, hlc, _, hex, cur, fr, hg, hcs, hfr, hcell⟩ := ro
    obtain ⟨cur', g1, g2, g3, g4, g5, gm⟩ := setCells_spec b ob.t fr ((xs.take n).map bv) (i * sz + j) cur w hg
    have hcn : ((List.range n).map fun k => AV.val (bv (xs.getD k 0))).length = n := by simp
    generalize hcsd : ((List.range n).map fun k => AV.val (bv (xs.getD k 0))) = cs at hcn ⊢
    have hvl : ((xs.take n).map bv).length = n := by simp; omega
    have hset := sat_set (w' := w.setCells b (i * sz + j) ((xs.take n).map bv)) (N := fun id => id = rid ∨ nx ≤ id) (o' := { ob with body := .rows (l.set i (splice el j cs)) }) s hid hE g1 g4 g5 gm hsz (by rw [g2]; exact hcs) (by rw [hob] at hlc; simpa [Body.len] using hlc)
      (fun hh => by have := hex hh; rw [hob] at this; simpa [Body.len] using this) hfr (by
        intro i' hi' j' hj'
        simp only [Body.len, List.length_set] at hi'
        have hi'' : i' < c := Nat.lt_of_lt_of_le (by rw [hob]; exact hi') hlc
        have hcur : i' * sz + j' < cur.size := by rw [hcs]; exact flat_lt hj' hi''
        rw [g3]
        obtain ⟨a', v', e1, e2, e3⟩ := hcell i' (by rw [hob]; exact hi') j' hj'
        rw [hob] at e1
        simp only [Body.cell?] at e1
        by_cases hii : i' = i ∧ j ≤ j' ∧ j' < j + n
        · obtain ⟨rfl, hj1, hj2⟩ := hii
          have hlt : j' - j < n := by omega
          rw [if_pos ⟨by omega, by rw [hvl]; omega, hcur⟩]
          refine ⟨.val (bv (xs.getD (j' - j) 0)), bv (xs.getD (j' - j) 0), ?_, ?_, .val _⟩
          · simp only [Body.cell?]
            rw [List.getElem?_set_self hil, Option.bind_some, splice_get el j cs (by omega), if_pos ⟨hj1, by omega⟩, ← hcsd]
            simp [hlt]
          · rw [show i' * sz + j' - (i' * sz + j) = j' - j by omega, List.getElem?_map, List.getElem?_take, if_pos hlt, List.getD_eq_getElem?_getD, List.getElem?_eq_getElem (by omega : j' - j < xs.length)]
            rfl
        · rw [if_neg (fun hc => hii (by
            obtain ⟨c1, c2, _⟩ := hc
            rw [hvl] at c2
            have := flat_inj (sz := sz) (i := i') (j := j') (i' := i) (j' := j + (i' * sz + j' - (i * sz + j))) hj' (by omega) (by omega)
            omega))]
          refine ⟨a', v', ?_, e2, e3⟩
          simp only [Body.cell?]
          by_cases hii2 : i' = i
          · subst hii2
            rw [List.getElem?_set_self hil, Option.bind_some, splice_get el j cs (by omega), if_neg (fun hc => hii ⟨rfl, by omega, by omega⟩)]
            rw [hi, Option.bind_some] at e1
            exact e1
          · rw [List.getElem?_set_ne (fun e => hii2 e.symm)]
            exact e1)
    exact .value E _ _ hrun ⟨hset.1, .val _, hset.2, Nat.le_refl _⟩
end
end Go.Proofs.YtfofhpkafhpicaaGreatDoor
