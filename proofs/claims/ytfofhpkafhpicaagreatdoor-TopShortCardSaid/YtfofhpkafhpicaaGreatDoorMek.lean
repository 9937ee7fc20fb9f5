/- Several texts in one: Ek, En, Eo. -/
import Derived.Test.YtfofhpkafhpicaaGreatDoorMei

/- An engine for walks, eleventh part: a region's operations one behind the other; code; functions. -/
namespace Go.Proofs.YtfofhpkafhpicaaGreatDoor
open Go.RowKit

/-! ### trees by number -/
inductive Tr (α : Type) where
  | leaf
  | node (v : Option α) (l r : Tr α)

def digits : Nat → Nat → List Bool
  | 0, _ => []
  | _ + 1, 0 => []
  | f + 1, n + 1 => ((n + 1) % 2 == 1) :: digits f ((n + 1) / 2)

def digitsVal : List Bool → Nat
  | [] => 0
  | b :: l => (if b then 1 else 0) + 2 * digitsVal l

theorem digitsVal_digits : ∀ (f n : Nat), n ≤ f → digitsVal (digits f n) = n
  | 0, n, h => by simp [digits, digitsVal]; omega
  | f + 1, 0, _ => rfl
  | f + 1, n + 1, h => by
    simp only [digits, digitsVal]
    rw [digitsVal_digits f ((n + 1) / 2) (by omega)]
    by_cases hm : (n + 1) % 2 = 1
    · simp [hm]; omega
    · simp [hm]; omega

def Tr.getD {α : Type} : Tr α → List Bool → Option α
  | .leaf, _ => none
  | .node v _ _, [] => v
  | .node _ l r, b :: p => if b then l.getD p else r.getD p

def Tr.putD {α : Type} (x : Option α) : List Bool → Tr α → Tr α
  | [], .leaf => .node x .leaf .leaf
  | [], .node _ l r => .node x l r
  | b :: p, .leaf => if b then .node none (Tr.putD x p .leaf) .leaf else .node none .leaf (Tr.putD x p .leaf)
  | b :: p, .node v l r => if b then .node v (Tr.putD x p l) r else .node v l (Tr.putD x p r)

theorem Tr.get_put {α : Type} (x : Option α) : ∀ (p : List Bool) (t : Tr α) (q : List Bool), (Tr.putD x p t).getD q = if q = p then x else t.getD q
  | [], .leaf, [] => by simp [putD, Tr.getD]
  | [], .leaf, b :: q => by cases b <;> simp [putD, Tr.getD]
  | [], .node v l r, [] => by simp [putD, Tr.getD]
  | [], .node v l r, b :: q => by cases b <;> simp [putD, Tr.getD]
  | b :: p, .leaf, [] => by cases b <;> simp [putD, Tr.getD]
  | b :: p, .leaf, c :: q => by
    have h1 := Tr.get_put x p .leaf q
    have h2 : (Tr.leaf : Tr α).getD q = none := by cases q <;> rfl
    rw [h2] at h1
    cases b <;> cases c <;> simp [putD, Tr.getD, h1]
  | b :: p, .node v l r, [] => by cases b <;> simp [putD, Tr.getD]
  | b :: p, .node v l r, c :: q => by
    have h1 := Tr.get_put x p l q
    have h2 := Tr.get_put x p r q
    cases b <;> cases c <;> simp [putD, Tr.getD, h1, h2]

def Tr.get {α : Type} (t : Tr α) (n : Nat) : Option α := t.getD (digits n n)
def Tr.put {α : Type} (t : Tr α) (n : Nat) (x : Option α) : Tr α := Tr.putD x (digits n n) t

theorem digits_inj {n m : Nat} (h : digits n n = digits m m) : n = m := by
  rw [← digitsVal_digits n n (Nat.le_refl _), h, digitsVal_digits m m (Nat.le_refl _)]

theorem Tr.get_put' {α : Type} (t : Tr α) (n m : Nat) (x : Option α) : (t.put n x).get m = if m = n then x else t.get m := by
  unfold Tr.put Tr.get
  rw [Tr.get_put]
  by_cases e : m = n
  · subst e; simp
  · rw [if_neg e, if_neg fun h => e (digits_inj h)]

theorem Tr.get_leaf {α : Type} (n : Nat) : (Tr.leaf : Tr α).get n = none := by
  unfold Tr.get
  cases digits n n <;> rfl

structure St where
  len : Nat
  tm : Tr AV
  hp : Tr AObj
  nx : Nat

def tmF (st : St) : Nat → AV := fun t => (st.tm.get t).getD .any
def heapF (t : Tr AObj) : Heap := fun id => t.get id

def applyT (t : Tr AObj) : List (Nat × Option AObj) → Tr AObj
  | [] => t
  | (k, x) :: us => applyT (t.put k x) us

theorem heapF_applyT : ∀ (us : List (Nat × Option AObj)) (t : Tr AObj), heapF (applyT t us) = applyU (heapF t) us
  | [], t => rfl
  | (k, x) :: us, t => by
    have : heapF (t.put k x) = upd (heapF t) k x := by
      funext id
      simp only [heapF, upd, Tr.get_put']
    rw [applyT, heapF_applyT us, this]
    rfl

def putL (st : St) (dst : Option Tmp) (v : AV) : Option (Tr AV) :=
  match dst with
  | none => some st.tm
  | some d => if d < st.len then some (st.tm.put d (some v)) else none

structure RepS (E : Env) (w : World) (st : St) (a : Act) : Prop where
  size : a.tmps.size = st.len
  rep : ∀ t, Rep E w (tmF st t) (a.tmps.getD t undef)

inductive Ex where
  | normal
  | exit (n : Nat)
  | ret
def Ex.to : Ex → Exit
  | .normal => .normal
  | .exit n => .exit n
  | .ret => .ret

/-- a loop whose bound is open: at most n rounds, t is asked each round; what stays from round to round; what stays behind the loop -/
structure LoopFam where
  n : Nat
  t : Tmp
  ts : List Nat
  ids : List Nat
  ts' : List Nat
  ids' : List Nat
  nx : Nat

structure Hints where
  op : Nat → Nat → Option Hn := fun _ _ => none
  gd : Nat → Nat → Option Bool := fun _ _ => none
  br : Nat → Option Bool := fun _ => none
  lp : Nat → Option (Ex × St) := fun _ => none
  fam : Nat → Option LoopFam := fun _ => none
  fuel : Nat := 0
  ob : Nat → Nat → Bool := fun _ _ => false
  sp : Nat → Nat → Bool := fun _ _ => false
  inl : Inl := fun _ _ _ _ => none
  cl : Bool := false

/-- are the conditions of an operation decided, or left to be shown? -/
def Hints.clAt (hs : Hints) (r i : Nat) : Bool := hs.cl && !hs.ob r i

/-- does the operation come up? -/
def wantedA (gd : Option Bool) (ops : Array Oper) (tm : Nat → AV) (o : Oper) : Option (Bool × List Prop) :=
  match o.guard with
  | none => some (true, [])
  | some (j, want) =>
    match (ops[j]?).bind (·.dst) with
    | some t =>
      match tm t with
      | .val (.bool b) =>
        match gd with
        | some bit => some (bit == want, [b = bit])
        | none => some (b == want, [])
      | .val (.tuple _) => some (false, [])
      | _ => none
    | none => none

/-- what the operands hold if they hold anything -/
def unO (tm : Nat → AV) : Nat → AV := fun t => match tm t with | .opt _ v => v | x => x
def unQ (tm : Nat → AV) : List Tmp → List Prop
  | [] => []
  | t :: l => match tm t with | .opt b _ => (b = true) :: unQ tm l | _ => unQ tm l

/-- the operands that must hold something: of a pick of what may hold nothing, the condition alone -/
def sTmps (hn : Option Hn) (o : Oper) : List Tmp :=
  match hn, o.op with
  | some .mrs, .pick c _ _ => (match c with | .tmp t => [t] | _ => [])
  | _, _ => opTmps o
def unOs (ss : List Tmp) (tm : Nat → AV) : Nat → AV := fun t => if ss.contains t then unO tm t else tm t

/-- under what condition does the operation come up? -/
def whenA (ops : Array Oper) (tm : Nat → AV) (o : Oper) : Option Bool :=
  match o.guard with
  | some (j, want) =>
    match (ops[j]?).bind (·.dst) with
    | some t =>
      match tm t with
      | .val (.bool b) => some (bif want then b else !b)
      | .opt b' (.val (.bool b)) => some (b' && (bif want then b else !b))
      | _ => none
    | none => none
  | none => none

def runOps (hs : Hints) (P : Program) (r : Nat) (ops : Array Oper) (base : Nat) : List Oper → Nat → St → Option (St × List Prop)
  | [], _, st => some (st, [])
  | o :: rest, i, st =>
    if hs.sp r i = true then
      match whenA ops (tmF st) o with
      | some g =>
        match opStepF (hs.clAt r i) hs.inl P (tmOf (opTmps o) (unOs (sTmps (hs.op r i) o) (tmF st))) (heapF st.hp) st.nx (base + i) (hs.op r i) o with
        | some (f, q2) =>
          match f.us, putL st o.dst (.opt g f.v) with
          | [], some tm => if st.nx ≤ f.nx then (runOps hs P r ops base rest (i + 1) ⟨st.len, tm, st.hp, f.nx⟩).map fun (s, q3) => (s, (unQ (tmF st) (sTmps (hs.op r i) o) ++ q2).map (fun p => g = true → p) ++ q3) else none
          | _, _ => none
        | none => none
      | none => none
    else
    match wantedA (hs.gd r i) ops (tmF st) o with
    | some (true, q) =>
      match opStepF (hs.clAt r i) hs.inl P (tmF st) (heapF st.hp) st.nx (base + i) (hs.op r i) o with
      | some (f, q2) =>
        match putL st o.dst f.v with
        | some tm => (runOps hs P r ops base rest (i + 1) ⟨st.len, tm, applyT st.hp f.us, f.nx⟩).map fun (s, q3) => (s, q ++ (q2 ++ q3))
        | none => none
      | none => none
    | some (false, q) =>
      match putL st o.dst (.val undef) with
      | some tm => (runOps hs P r ops base rest (i + 1) ⟨st.len, tm, st.hp, st.nx⟩).map fun (s, q3) => (s, q ++ q3)
      | none => none
    | none => none

section
variable {P : Program} {E E' : Env} {w w' : World} {a : Act}

theorem RepS.repT {st : St} (h : RepS E w st a) : RepT E w (tmF st) a := ⟨h.rep⟩

theorem RepS.put {st : St} {tm' : Tr AV} {dst : Option Tmp} {v : AV} {u : Value} (h : RepS E w st a) (m : More E w E' w') (hp : putL st dst v = some tm') (r : Rep E' w' v u) (H : Tr AObj) (nx : Nat) : RepS E' w' ⟨st.len, tm', H, nx⟩ (a.put dst u) := by
  unfold putL at hp
  split at hp
  · injection hp with hp
    subst hp
    exact ⟨h.size, fun t => (h.rep t).more m⟩
  · rename_i d
    split at hp
    · rename_i hd
      injection hp with hp
      subst hp
      refine ⟨by simp [Act.put, h.size], fun t => ?_⟩
      show Rep E' w' (((st.tm.put d (some v)).get t).getD .any) _
      rw [Tr.get_put']
      by_cases e : t = d
      · subst e
        have : t < a.tmps.size := by rw [h.size]; exact hd
        simp [Act.put, this]
        exact r
      · have := (h.rep t).more m
        have e' : ¬ d = t := fun h => e h.symm
        simp [Act.put, e, Array.getElem?_setIfInBounds_ne e'] at this ⊢
        exact this
    · cases hp

theorem put_defers (a : Act) (d : Option Tmp) (u : Value) : (a.put d u).defers = a.defers := by cases d <;> rfl

theorem wantedA_ok {gd : Option Bool} {ops : Array Oper} {tm : Nat → AV} {o : Oper} {b : Bool} {q : List Prop} (h : RepT E w tm a) (hw : wantedA gd ops tm o = some (b, q)) (hq : ∀ p ∈ q, p) : Region.wanted o (yielded ops a.tmps) = b := by
  unfold wantedA at hw
  unfold Region.wanted
  split at hw
  · rename_i hg
    simp only [Option.some.injEq, Prod.mk.injEq] at hw
    rw [hg]
    exact hw.1
  · rename_i j want hg
    rw [hg]
    split at hw
    · rename_i t ht
      have ex : ∀ v : Value, v ≠ undef → a.tmps.getD t undef = v → a.tmps[t]? = some v := by
        intro v hv he
        by_cases hlt : t < a.tmps.size
        · simp [hlt] at he ⊢; exact he
        · exfalso; apply hv; rw [← he]; simp [hlt]
      split at hw
      · rename_i b' hb'
        have hr := h.rep t
        rw [hb'] at hr
        have hv := ex _ (by simp [undef]) hr.val_inv
        have hy : yielded ops a.tmps j = some b' := by
          unfold yielded
          rw [ht]
          simp only [Option.bind_some, hv]
        split at hw
        · rename_i bit
          simp only [Option.some.injEq, Prod.mk.injEq] at hw
          obtain ⟨h1, rfl⟩ := hw
          have : b' = bit := hq _ (List.mem_singleton.2 rfl)
          subst this
          simp only [hy, ← h1]
          cases b' <;> cases want <;> rfl
        · simp only [Option.some.injEq, Prod.mk.injEq] at hw
          obtain ⟨h1, _⟩ := hw
          simp only [hy, ← h1]
          cases b' <;> cases want <;> rfl
      · rename_i vs hb'
        simp only [Option.some.injEq, Prod.mk.injEq] at hw
        have hr := h.rep t
        rw [hb'] at hr
        have hv := hr.val_inv
        have hy : yielded ops a.tmps j = none := by
          unfold yielded
          rw [ht]
          simp only [Option.bind_some]
          by_cases hlt : t < a.tmps.size
          · simp [hlt] at hv ⊢
            rw [hv]
          · simp [hlt]
        simp only [hy, ← hw.1]
        cases want <;> rfl
      · cases hw
    · cases hw

theorem whenA_ok {ops : Array Oper} {tm : Nat → AV} {o : Oper} {g : Bool} (h : RepT E w tm a) (hw : whenA ops tm o = some g) : Region.wanted o (yielded ops a.tmps) = g := by
  unfold whenA at hw
  unfold Region.wanted
  split at hw
  · rename_i j want hg
    rw [hg]
    split at hw
    · rename_i t ht
      have ex : ∀ v : Value, v ≠ undef → a.tmps.getD t undef = v → a.tmps[t]? = some v := by
        intro v hv he
        by_cases hlt : t < a.tmps.size
        · simp [hlt] at he ⊢; exact he
        · exfalso; apply hv; rw [← he]; simp [hlt]
      have yes : ∀ b : Bool, a.tmps.getD t undef = .bool b → yielded ops a.tmps j = some b := fun b hb => by
        have hv := ex _ (by simp [undef]) hb
        unfold yielded
        rw [ht]
        simp only [Option.bind_some, hv]
      have no : a.tmps.getD t undef = .tuple #[] → yielded ops a.tmps j = none := fun hb => by
        unfold yielded
        rw [ht]
        simp only [Option.bind_some]
        by_cases hlt : t < a.tmps.size
        · simp [hlt] at hb ⊢
          rw [hb]
        · simp [hlt]
      split at hw
      · rename_i b hb
        injection hw with hw
        subst hw
        have hr := h.rep t
        rw [hb] at hr
        simp only [yes b hr.val_inv]
        cases b <;> cases want <;> rfl
      · rename_i b' b hb
        injection hw with hw
        subst hw
        have hr := h.rep t
        rw [hb] at hr
        cases hr with
        | opt h1 h2 =>
          cases b' with
          | true =>
            simp only [yes b (h1 rfl).val_inv]
            cases b <;> cases want <;> rfl
          | false =>
            simp only [no (h2 rfl)]
            cases want <;> rfl
      · cases hw
    · cases hw
  · cases hw

theorem unOs_rep {tm : Nat → AV} {ts ss : List Tmp} (h : RepT E w tm a) (hq : ∀ p ∈ unQ tm ss, p) : RepT E w (tmOf ts (unOs ss tm)) a := by
  refine ⟨fun t => ?_⟩
  unfold tmOf
  split
  · unfold unOs
    split
    · rename_i ht
      have key : ∀ (l : List Tmp), (∀ p ∈ unQ tm l, p) → t ∈ l → Rep E w (unO tm t) (a.tmps.getD t undef) := by
        intro l
        induction l with
        | nil => intro _ hm; cases hm
        | cons x l ih =>
          intro hql hm
          have hr := h.rep t
          rcases List.mem_cons.1 hm with rfl | hm
          · simp only [unQ] at hql
            unfold unO
            split at hql
            · rename_i b v e
              rw [e] at hr
              cases hr with
              | opt h1 h2 => exact h1 (hql _ List.mem_cons_self)
            · exact hr
          · refine ih (fun p hp => hql p ?_) hm
            simp only [unQ]
            split
            · exact List.mem_cons_of_mem _ hp
            · exact hp
      exact key ss hq (by simpa using ht)
    · exact h.rep t
  · exact .any _

theorem runOps_ok {hs : Hints} (hinl : InlOk P hs.inl) {r : Nat} {ops : Array Oper} {base n : Nat} : ∀ (l : List Oper) (i : Nat) (st st' : St) (q : List Prop) (E : Env) (a : Act) (w : World), runOps hs P r ops base l i st = some (st', q) → (∀ p ∈ q, p) →
    i + l.length = n → base + n ≤ st.nx → (∀ k, i ≤ k → k < n → E.f (base + k) = none) → Sat E st.nx (heapF st.hp) w → RepS E w st a → ∀ (Q : Exit → Act → World → Prop),
    (∀ E' a' w', Sat E' st'.nx (heapF st'.hp) w' → RepS E' w' st' a' → Ext E (heapF st.hp) w (fun id => base ≤ id) E' (heapF st'.hp) w' → a'.defers = a.defers → st.nx ≤ st'.nx → Q .normal a' w') → wpList P ops Q l a w
  | [], i, st, st', q, E, a, w, h, _, _, _, _, s, hr, Q, hQ => by
    simp only [runOps, Option.some.injEq, Prod.mk.injEq] at h
    obtain ⟨rfl, _⟩ := h
    exact hQ E a w s hr (Ext.refl s) rfl (Nat.le_refl _)
  | o :: rest, i, st, st', q, E, a, w, h, hq, hn, hb, hfree, s, hr, Q, hQ => by
    simp only [runOps] at h
    simp only [List.length_cons] at hn
    split at h
    · split at h
      · rename_i g hg
        split at h
        · rename_i f q2 hstep
          split at h
          · rename_i tm hus hput
            split at h
            · rename_i hle
              simp only [Option.map_eq_some_iff, Prod.mk.injEq] at h
              obtain ⟨⟨s3, q3⟩, h3, rfl, rfl⟩ := h
              have hwant := whenA_ok hr.repT hg
              cases g with
              | true =>
                have hq' : ∀ p ∈ unQ (tmF st) (sTmps (hs.op r i) o) ++ q2, p := fun p hp => hq (true = true → p) (List.mem_append_left _ (List.mem_map.2 ⟨p, hp, rfl⟩)) rfl
                have hok := opStepF_ok (a := a) (o := o) s (unOs_rep hr.repT fun p hp => hq' p (List.mem_append_left _ hp)) (hfree i (Nat.le_refl _) (by omega)) (by omega) hstep (fun p hp => hq' p (List.mem_append_right _ hp)) hinl
                unfold wpList
                rw [if_pos hwant]
                refine .inl (hok.wp fun E' w' u p => ?_)
                have psat := p.sat
                have pext := p.ext
                rw [hus] at psat pext
                simp only [applyU, List.foldl_nil] at psat pext
                refine runOps_ok (n := n) hinl rest (i + 1) ⟨st.len, tm, st.hp, f.nx⟩ s3 q3 E' _ w' h3 (fun p hp => hq p (List.mem_append_right _ hp)) (by omega) (by show base + n ≤ f.nx; omega) (fun k hk1 hk2 => ?_) psat (hr.put (p.ext.more s) hput (.opt (fun _ => p.rep) (fun e => by cases e)) _ _) Q fun E2 a2 w2 t1 t2 t3 t4 t5 => ?_
                · cases hE : E'.f (base + k) with
                  | none => rfl
                  | some pl =>
                    rcases pext.nw _ _ hE with h | h | h
                    · rw [hfree k (by omega) hk2] at h; cases h
                    · omega
                    · omega
                · exact hQ E2 a2 w2 t1 t2 (pext.trans t3 (fun id h => by rcases h with h | h <;> omega) fun _ h => h) (by rw [t4, put_defers]) (Nat.le_trans hle t5)
              | false =>
                unfold wpList
                rw [if_neg (by rw [hwant]; simp)]
                refine runOps_ok (n := n) hinl rest (i + 1) ⟨st.len, tm, st.hp, f.nx⟩ s3 q3 E _ w h3 (fun p hp => hq p (List.mem_append_right _ hp)) (by omega) (by show base + n ≤ f.nx; omega) (fun k hk1 hk2 => hfree k (Nat.le_of_succ_le hk1) hk2) (s.up hle) (hr.put ⟨fun _ _ h => h, fun _ h => h, fun _ _ => rfl⟩ hput (.opt (fun e => by cases e) (fun _ => rfl)) _ _) Q fun E2 a2 w2 t1 t2 t3 t4 t5 => hQ E2 a2 w2 t1 t2 t3 (by rw [t4, put_defers]) (Nat.le_trans hle t5)
            · cases h
          · cases h
        · cases h
      · cases h
    split at h
    · rename_i q1 hw
      split at h
      · rename_i f q2 hstep
        split at h
        · rename_i tm hput
          simp only [Option.map_eq_some_iff, Prod.mk.injEq] at h
          obtain ⟨⟨s3, q3⟩, h3, rfl, rfl⟩ := h
          have hwant := wantedA_ok hr.repT hw fun p hp => hq p (List.mem_append_left _ hp)
          have hok := opStepF_ok (a := a) (o := o) s hr.repT (hfree i (Nat.le_refl _) (by omega)) (by omega) hstep (fun p hp => hq p (List.mem_append_right _ (List.mem_append_left _ hp))) hinl
          unfold wpList
          rw [if_pos hwant]
          refine .inl (hok.wp fun E' w' u p => ?_)
          have hnx := p.le
          have psat := p.sat
          rw [← heapF_applyT] at psat
          have pext := p.ext
          rw [← heapF_applyT] at pext
          refine runOps_ok (n := n) hinl rest (i + 1) ⟨st.len, tm, applyT st.hp f.us, f.nx⟩ s3 q3 E' _ w' h3 (fun p hp => hq p (List.mem_append_right _ (List.mem_append_right _ hp))) (by omega) (by show base + n ≤ f.nx; omega) (fun k hk1 hk2 => ?_) psat (hr.put (p.ext.more s) hput p.rep _ _) Q fun E2 a2 w2 t1 t2 t3 t4 t5 => ?_
          · cases hE : E'.f (base + k) with
            | none => rfl
            | some pl =>
              rcases pext.nw _ _ hE with h | h | h
              · rw [hfree k (by omega) hk2] at h; cases h
              · omega
              · omega
          · exact hQ E2 a2 w2 t1 t2 (pext.trans t3 (fun id h => by rcases h with h | h <;> omega) fun _ h => h) (by rw [t4, put_defers]) (Nat.le_trans hnx t5)
        · cases h
      · cases h
    · rename_i q1 hw
      split at h
      · rename_i tm hput
        simp only [Option.map_eq_some_iff, Prod.mk.injEq] at h
        obtain ⟨⟨s3, q3⟩, h3, rfl, rfl⟩ := h
        have hwant := wantedA_ok hr.repT hw fun p hp => hq p (List.mem_append_left _ hp)
        unfold wpList
        rw [if_neg (by rw [hwant]; simp)]
        refine runOps_ok (n := n) hinl rest (i + 1) ⟨st.len, tm, st.hp, st.nx⟩ s3 q3 E _ w h3 (fun p hp => hq p (List.mem_append_right _ hp)) (by omega) hb (fun k hk1 hk2 => hfree k (Nat.le_of_succ_le hk1) hk2) s (hr.put ⟨fun _ _ h => h, fun _ h => h, fun _ _ => rfl⟩ hput (.val _) _ _) Q fun E2 a2 w2 t1 t2 t3 t4 t5 => hQ E2 a2 w2 t1 t2 t3 (by rw [t4, put_defers]) t5
      · cases h
    · cases h
end
end Go.Proofs.YtfofhpkafhpicaaGreatDoor

/- An engine for walks: a region whose order is open: each order that its edges allow comes to what the text's own order comes to. -/
namespace Go.Proofs.YtfofhpkafhpicaaGreatDoor
open Go.RowKit

structure Rec where
  dst : Option Tmp
  v : AV
  us : List (Nat × Option AObj)
  nxb : Nat
  call : Bool
  looks : List Tmp
  ids : List Nat

def guardTmp (ops : Array Oper) (o : Oper) : List Tmp :=
  match o.guard with
  | none => []
  | some (j, _) => ((ops[j]?).bind (·.dst)).toList

def recStep (hs : Hints) (P : Program) (r : Nat) (ops : Array Oper) (base i : Nat) (tm : Nat → AV) (H : Heap) (nx : Nat) (o : Oper) : Option (Rec × List Prop) :=
  match wantedA (hs.gd r i) ops tm o with
  | some (true, q) =>
    match opStepF (hs.clAt r i) hs.inl P tm H nx (base + i) (hs.op r i) o with
    | some (f, q2) => some (⟨o.dst, f.v, f.us, f.nx, (isCall o).isSome, opTmps o ++ guardTmp ops o, rdSet H tm o (hs.op r i) ++ f.us.map (·.1)⟩, q ++ q2)
    | none => none
  | some (false, q) => some (⟨o.dst, .val undef, [], nx, false, guardTmp ops o, []⟩, q)
  | none => none

def runRec (hs : Hints) (P : Program) (r : Nat) (ops : Array Oper) (base : Nat) : List Oper → Nat → St → Option (List Rec × St × List Prop)
  | [], _, st => some ([], st, [])
  | o :: rest, i, st =>
    match recStep hs P r ops base i (tmF st) (heapF st.hp) st.nx o with
    | some (rc, q) =>
      match putL st o.dst rc.v with
      | some tm =>
        match runRec hs P r ops base rest (i + 1) ⟨st.len, tm, applyT st.hp rc.us, if rc.call then rc.nxb else st.nx⟩ with
        | some (l, s, q') => some (rc :: l, s, q ++ q')
        | none => none
      | none => none
    | none => none

/-- what must come up ahead of each: bits -/
def ancE (acc : List Nat) : List Edge → Nat
  | [] => 0
  | e :: es => if Region.binds .any e then 2 ^ e.on ||| acc.getD e.on 0 ||| ancE acc es else ancE acc es
def ancL : List Oper → List Nat → List Nat
  | [], acc => acc
  | o :: rest, acc => ancL rest (acc ++ [ancE acc o.after.toList])

/-- operations whose order is open do not meet: what is known of them beforehand -/
def statPair (anc : List Nat) (ops : Array Oper) (i j : Nat) (x y : Oper) : Bool :=
  let ok := (anc.getD i 0).testBit j || (anc.getD j 0).testBit i
  (match y.dst with | some t => !((opTmps x ++ guardTmp ops x).contains t) || ok | none => true) &&
  (match x.dst with | some t => y.dst != some t | none => true) &&
  (!((isCall x).isSome && (isCall y).isSome) || ok)

def allPairs (f : Nat → Oper → Nat → Oper → Bool) (ops : List (Nat × Oper)) : Bool := ops.all fun x => ops.all fun y => x.1 == y.1 || f x.1 x.2 y.1 y.2

def numbered (l : List Oper) : Nat → List (Nat × Oper) := fun i => match l with
  | [] => []
  | o :: rest => (i, o) :: numbered rest (i + 1)

def statOk (ops : Array Oper) : Bool :=
  ((List.range ops.size).all fun i => (ancL ops.toList []).getD i 0 < 2 ^ i) && allPairs (fun i x j y => statPair (ancL ops.toList []) ops i j x y) (numbered ops.toList 0)

/-- what is known when they are reckoned -/
def dynOk (anc : List Nat) (rs : List Rec) : Bool :=
  (List.range rs.length).all fun j =>
    match rs[j]? with
    | some y =>
      match y.us with
      | [] => true
      | us => (List.range rs.length).all fun i => i == j || (match rs[i]? with | some x => !(us.any fun u => x.ids.contains u.1) || (anc.getD i 0).testBit j || (anc.getD j 0).testBit i | none => false)
    | none => false

def apartOk (ops : Array Oper) (rs : List Rec) : Bool := statOk ops && dynOk (ancL ops.toList []) rs

section
variable (R : Nat → Rec) (X : Nat → Bool) (tm0 : Nat → AV) (H0 : Heap) (nx0 : Nat)
def tmAt : Nat → Nat → AV
  | 0, t => tm0 t
  | n + 1, t => if X n = true ∧ (R n).dst = some t then (R n).v else tmAt n t
def HAt : Nat → Heap
  | 0 => H0
  | n + 1 => if X n = true then applyU (HAt n) (R n).us else HAt n
def nxAt : Nat → Nat
  | 0 => nx0
  | n + 1 => if X n = true ∧ (R n).call = true then (R n).nxb else nxAt n
end

section
variable {R : Nat → Rec} {X Y : Nat → Bool} {tm0 : Nat → AV} {H0 : Heap} {nx0 : Nat}

theorem tmAt_eq : ∀ (n : Nat) (t : Nat), (∀ j, j < n → (R j).dst = some t → X j = Y j) → tmAt R X tm0 n t = tmAt R Y tm0 n t
  | 0, _, _ => rfl
  | n + 1, t, h => by
    simp only [tmAt]
    rw [tmAt_eq n t fun j hj => h j (by omega)]
    by_cases hd : (R n).dst = some t
    · rw [h n (by omega) hd]
    · simp [hd]

theorem HAt_eq : ∀ (n : Nat) (id : Nat), (∀ j, j < n → (∃ x, (id, x) ∈ (R j).us) → X j = Y j) → HAt R X H0 n id = HAt R Y H0 n id
  | 0, _, _ => rfl
  | n + 1, id, h => by
    have ih := HAt_eq n id fun j hj => h j (by omega)
    simp only [HAt]
    by_cases hd : ∃ x, (id, x) ∈ (R n).us
    · rw [h n (by omega) hd]
      split
      · exact applyU_dep _ _ _ _ (.inl hd)
      · exact ih
    · have key : ∀ K : Heap, applyU K (R n).us id = K id := fun K => by
        rcases applyU_cases (R n).us K id with ⟨x, h1, _⟩ | ⟨_, h2⟩
        · exact absurd ⟨x, h1⟩ hd
        · exact h2
      have : ∀ b : Bool, (if b = true then applyU (HAt R X H0 n) (R n).us else HAt R X H0 n) id = HAt R X H0 n id := fun b => by
        cases b
        · rfl
        · exact key _
      rw [this]
      have : ∀ b : Bool, (if b = true then applyU (HAt R Y H0 n) (R n).us else HAt R Y H0 n) id = HAt R Y H0 n id := fun b => by
        cases b
        · rfl
        · exact key _
      rw [this]
      exact ih

theorem nxAt_eq : ∀ (n : Nat), (∀ j, j < n → (R j).call = true → X j = Y j) → nxAt R X nx0 n = nxAt R Y nx0 n
  | 0, _ => rfl
  | n + 1, h => by
    simp only [nxAt]
    rw [nxAt_eq n fun j hj => h j (by omega)]
    by_cases hd : (R n).call = true
    · rw [h n (by omega) hd]
    · simp [hd]

/-- what comes behind does not matter where nothing of it has come up -/
theorem tmAt_skip {i : Nat} : ∀ (n : Nat) (t : Nat), i ≤ n → (∀ j, i ≤ j → j < n → (R j).dst = some t → X j = false) → tmAt R X tm0 n t = tmAt R X tm0 i t
  | 0, t, hi, _ => by rw [show i = 0 by omega]
  | n + 1, t, hi, h => by
    by_cases e : i = n + 1
    · rw [e]
    · simp only [tmAt]
      rw [if_neg (fun hc => by have := h n (by omega) (by omega) hc.2; rw [this] at hc; cases hc.1)]
      exact tmAt_skip n t (by omega) fun j h1 h2 => h j h1 (by omega)

theorem HAt_skip {i : Nat} : ∀ (n : Nat) (id : Nat), i ≤ n → (∀ j, i ≤ j → j < n → (∃ x, (id, x) ∈ (R j).us) → X j = false) → HAt R X H0 n id = HAt R X H0 i id
  | 0, id, hi, _ => by rw [show i = 0 by omega]
  | n + 1, id, hi, h => by
    by_cases e : i = n + 1
    · rw [e]
    · have ih := HAt_skip n id (by omega) fun j h1 h2 => h j h1 (by omega)
      simp only [HAt]
      split
      · rename_i hx
        rcases applyU_cases (R n).us (HAt R X H0 n) id with ⟨x, h1, _⟩ | ⟨_, h2⟩
        · have := h n (by omega) (by omega) ⟨x, h1⟩
          rw [this] at hx
          cases hx
        · rw [h2]; exact ih
      · exact ih

theorem nxAt_skip {i : Nat} : ∀ (n : Nat), i ≤ n → (∀ j, i ≤ j → j < n → (R j).call = true → X j = false) → nxAt R X nx0 n = nxAt R X nx0 i
  | 0, hi, _ => by rw [show i = 0 by omega]
  | n + 1, hi, h => by
    by_cases e : i = n + 1
    · rw [e]
    · simp only [nxAt]
      rw [if_neg (fun hc => by have := h n (by omega) (by omega) hc.2; rw [this] at hc; cases hc.1)]
      exact nxAt_skip n (by omega) fun j h1 h2 => h j h1 (by omega)

/-- one more has come up -/
theorem tmAt_add {i : Nat} (hY : ∀ j, Y j = (X j || j == i)) (hi : X i = false) : ∀ (n : Nat) (t : Nat), i < n → (∀ j, i < j → j < n → (R j).dst = some t → (R i).dst = some t → False) →
    tmAt R Y tm0 n t = if (R i).dst = some t then (R i).v else tmAt R X tm0 n t
  | 0, t, h, _ => by omega
  | n + 1, t, h, hd => by
    by_cases e : i = n
    · subst e
      simp only [tmAt, hY, hi]
      rw [tmAt_eq (X := Y) (Y := X) i t fun j hj _ => by rw [hY]; simp [show ¬ j = i by omega]]
      by_cases hc : (R i).dst = some t <;> simp [hc]
    · have ih := tmAt_add hY hi n t (by omega) fun j h1 h2 => hd j h1 (by omega)
      simp only [tmAt]
      rw [show Y n = X n by rw [hY]; simp [show ¬ n = i by omega], ih]
      by_cases hc : (R i).dst = some t
      · have : ¬ (R n).dst = some t := fun h' => hd n (by omega) (by omega) h' hc
        simp [hc, this]
      · simp [hc]

theorem HAt_add {i : Nat} (hY : ∀ j, Y j = (X j || j == i)) (hi : X i = false) : ∀ (n : Nat) (id : Nat), i < n → (∀ j, i < j → j < n → X j = true → (∃ x, (id, x) ∈ (R j).us) → (∃ x, (id, x) ∈ (R i).us) → False) →
    HAt R Y H0 n id = applyU (HAt R X H0 n) (R i).us id
  | 0, id, h, _ => by omega
  | n + 1, id, h, hd => by
    by_cases e : i = n
    · subst e
      simp only [HAt, hY, hi]
      simp only [beq_self_eq_true, Bool.or_true, if_true, Bool.false_eq_true, if_false]
      refine applyU_dep _ _ _ _ (.inr ?_)
      exact HAt_eq i id fun j hj _ => by rw [hY]; simp [show ¬ j = i by omega]
    · have ih := HAt_add hY hi n id (by omega) fun j h1 h2 => hd j h1 (by omega)
      have hYn : Y n = X n := by rw [hY]; simp [show ¬ n = i by omega]
      simp only [HAt]
      rw [hYn]
      by_cases hx : X n = true
      · rw [if_pos hx, if_pos hx]
        by_cases h1 : ∃ x, (id, x) ∈ (R n).us
        · have h2 : ¬ ∃ x, (id, x) ∈ (R i).us := fun h2 => hd n (by omega) (by omega) hx h1 h2
          rw [applyU_dep (R n).us (HAt R Y H0 n) (HAt R X H0 n) id (.inl h1)]
          rcases applyU_cases (R i).us (applyU (HAt R X H0 n) (R n).us) id with ⟨x, h3, _⟩ | ⟨_, h4⟩
          · exact absurd ⟨x, h3⟩ h2
          · exact h4.symm
        · have key : ∀ K : Heap, applyU K (R n).us id = K id := fun K => by
            rcases applyU_cases (R n).us K id with ⟨x, h3, _⟩ | ⟨_, h4⟩
            · exact absurd ⟨x, h3⟩ h1
            · exact h4
          rw [key, ih]
          exact applyU_dep _ _ _ _ (.inr (key _).symm)
      · rw [if_neg hx, if_neg hx]
        exact ih

theorem nxAt_add {i : Nat} (hY : ∀ j, Y j = (X j || j == i)) (hi : X i = false) : ∀ (n : Nat), i < n → (∀ j, i < j → j < n → X j = true → (R j).call = true → (R i).call = true → False) →
    nxAt R Y nx0 n = if (R i).call = true then (R i).nxb else nxAt R X nx0 n
  | 0, h, _ => by omega
  | n + 1, h, hd => by
    by_cases e : i = n
    · subst e
      simp only [nxAt, hY, hi]
      rw [nxAt_eq (X := Y) (Y := X) i fun j hj _ => by rw [hY]; simp [show ¬ j = i by omega]]
      by_cases hc : (R i).call = true <;> simp [hc]
    · have ih := nxAt_add hY hi n (by omega) fun j h1 h2 => hd j h1 (by omega)
      have hYn : Y n = X n := by rw [hY]; simp [show ¬ n = i by omega]
      simp only [nxAt]
      rw [hYn, ih]
      by_cases hc : (R i).call = true
      · by_cases hx : X n = true ∧ (R n).call = true
        · exact (hd n (by omega) (by omega) hx.1 hx.2 hc).elim
        · simp [hc, hx]
      · simp [hc]
end
end Go.Proofs.YtfofhpkafhpicaaGreatDoor

/- An engine for walks: a region whose order is open: whichever order comes, the end is the same. -/
namespace Go.Proofs.YtfofhpkafhpicaaGreatDoor
open Go.RowKit

section
variable {P : Program} {hs : Hints}

theorem reach_mono (H : Heap) : ∀ (n : Nat) (todo acc : List Nat) (x : Nat), x ∈ acc → x ∈ reach H n todo acc
  | 0, _, _, _, h => h
  | n + 1, [], _, _, h => h
  | n + 1, id :: todo, acc, x, h => by
    simp only [reach]
    split
    · exact reach_mono H n _ _ x h
    · split
      · exact reach_mono H n _ _ x (List.mem_cons_of_mem _ h)
      · exact reach_mono H n _ _ x (List.mem_cons_of_mem _ h)

theorem reach_congr {H K : Heap} : ∀ (n : Nat) (todo acc : List Nat), (∀ id ∈ reach H n todo acc, H id = K id) → reach H n todo acc = reach K n todo acc
  | 0, _, _, _ => rfl
  | n + 1, [], _, _ => rfl
  | n + 1, id :: todo, acc, h => by
    simp only [reach] at h ⊢
    by_cases hc : acc.contains id = true
    · rw [if_pos hc] at h ⊢
      rw [if_pos hc]
      exact reach_congr n _ _ h
    · rw [if_neg hc] at h ⊢
      rw [if_neg hc]
      cases hH : H id with
      | some x =>
        rw [hH] at h
        have : K id = some x := by
          rw [← h id (reach_mono H n _ _ id List.mem_cons_self), hH]
        rw [this]
        exact reach_congr n _ _ h
      | none =>
        rw [hH] at h
        have : K id = none := by
          rw [← h id (reach_mono H n _ _ id List.mem_cons_self), hH]
        rw [this]
        exact reach_congr n _ _ h

theorem pickO_congr {H K : Heap} : ∀ (R : List Nat), (∀ id ∈ R, H id = K id) → pickO H R = pickO K R
  | [], _ => rfl
  | i :: R, h => by
    unfold pickO
    simp only [List.filterMap_cons]
    rw [h i List.mem_cons_self]
    have := pickO_congr R fun id hid => h id (List.mem_cons_of_mem _ hid)
    unfold pickO at this
    rw [this]

theorem tmOf_congr {ts : List Tmp} {tm tm' : Nat → AV} (h : ∀ t ∈ ts, tm t = tm' t) : tmOf ts tm = tmOf ts tm' := by
  funext t
  unfold tmOf
  split
  · rename_i hc
    exact h t (by simpa using hc)
  · rfl

theorem flatMap_congr' {α β : Type} {f g : α → List β} : ∀ (l : List α), (∀ x ∈ l, f x = g x) → l.flatMap f = l.flatMap g
  | [], _ => rfl
  | x :: l, h => by
    simp only [List.flatMap_cons]
    rw [h x List.mem_cons_self, flatMap_congr' l fun y hy => h y (List.mem_cons_of_mem _ hy)]

theorem startIds_congr {o : Oper} {hn : Option Hn} {tm tm' : Nat → AV} (h : ∀ t ∈ opTmps o, tm t = tm' t) : startIds tm o hn = startIds tm' o hn := by
  unfold startIds
  rw [flatMap_congr' _ fun t ht => by rw [h t ht]]

theorem opStepF_congr {cl : Bool} {inl : Inl} {tm tm' : Nat → AV} {H K : Heap} {nx rid : Nat} {hn : Option Hn} {o : Oper} (ht : ∀ t ∈ opTmps o, tm t = tm' t) (hH : ∀ id ∈ rdSet H tm o hn, H id = K id) :
    opStepF cl inl P tm H nx rid hn o = opStepF cl inl P tm' K nx rid hn o := by
  have hr : rdSet H tm o hn = rdSet K tm' o hn := by
    unfold rdSet at hH ⊢
    rw [← startIds_congr (hn := hn) ht]
    split
    · rename_i hc
      rw [if_pos hc] at hH
      exact reach_congr _ _ _ hH
    · rfl
  unfold opStepF
  simp only
  rw [← tmOf_congr ht, ← hr, pickO_congr _ hH]

theorem opStepF_nx {cl : Bool} {inl : Inl} {tm : Nat → AV} {H : Heap} {nx nx' rid : Nat} {hn : Option Hn} {o : Oper} {f : Eff} {q : List Prop} (hc : isCall o = none) (h : opStepF cl inl P tm H nx rid hn o = some (f, q)) :
    opStepF cl inl P tm H nx' rid hn o = some (⟨f.v, f.us, nx'⟩, q) := by
  unfold opStepF opStep opStep1 at h ⊢
  simp only [hc] at h ⊢
  split at h
  · rename_i f1 q1 h1
    split at h1
    · rename_i f2 q2 h2
      simp only [Option.some.injEq, Prod.mk.injEq] at h1
      obtain ⟨rfl, rfl⟩ := h1
      simp only
      split at h
      · rename_i c
        split at h
        · rename_i v q' h3
          simp only [Option.some.injEq, Prod.mk.injEq] at h
          obtain ⟨rfl, rfl⟩ := h
          simp only [h3]
        · cases h
      · split at h
        · rename_i us q' h3
          simp only [Option.some.injEq, Prod.mk.injEq] at h
          obtain ⟨rfl, rfl⟩ := h
          simp only [h3]
        · cases h
      · simp only [Option.some.injEq, Prod.mk.injEq] at h
        obtain ⟨rfl, rfl⟩ := h
        rfl
      · rename_i hne
        simp only [Option.some.injEq, Prod.mk.injEq] at h
        obtain ⟨rfl, rfl⟩ := h
        rfl
    · cases h1
  · cases h

theorem wantedA_congr {gd : Option Bool} {ops : Array Oper} {o : Oper} {tm tm' : Nat → AV} (h : ∀ t ∈ guardTmp ops o, tm t = tm' t) : wantedA gd ops tm o = wantedA gd ops tm' o := by
  unfold wantedA
  unfold guardTmp at h
  split
  · rfl
  · rename_i j want hg
    simp only [hg] at h
    split
    · rename_i t ht
      simp only [ht] at h
      rw [h t (by simp)]
    · rfl

/-- what was reckoned of an operation -/
def RecOk (hs : Hints) (P : Program) (r : Nat) (ops : Array Oper) (base : Nat) (R : Nat → Rec) (tm0 : Nat → AV) (H0 : Heap) (nx0 : Nat) (i : Nat) : Prop :=
  ∃ o q, ops[i]? = some o ∧ (∀ p ∈ q, p) ∧ recStep hs P r ops base i (tmAt R (fun _ => true) tm0 i) (HAt R (fun _ => true) H0 i) (nxAt R (fun _ => true) nx0 i) o = some (R i, q)

theorem tmF_put {st : St} {tm : Tr AV} {dst : Option Tmp} {v : AV} (h : putL st dst v = some tm) : ∀ t, (tm.get t).getD .any = if dst = some t then v else tmF st t := by
  intro t
  unfold putL at h
  split at h
  · injection h with h; subst h; simp [tmF]
  · rename_i d
    split at h
    · injection h with h
      subst h
      rw [Tr.get_put']
      by_cases e : t = d
      · subst e; simp
      · have e' : ¬ d = t := fun h => e h.symm
        simp [e, e', tmF]
    · cases h

theorem putL_len {st : St} {tm' : Tr AV} {dst : Option Tmp} {v : AV} (h : putL st dst v = some tm') : ∀ d, dst = some d → d < st.len := by
  unfold putL at h
  split at h
  · exact fun d h => by cases h
  · split at h
    · exact fun d h => by cases h; assumption
    · cases h

theorem runRec_ok {r : Nat} {ops : Array Oper} {base : Nat} {R : Nat → Rec} {tm0 : Nat → AV} {H0 : Heap} {nx0 : Nat} : ∀ (l : List Oper) (i : Nat) (st s : St) (rs : List Rec) (q : List Prop), runRec hs P r ops base l i st = some (rs, s, q) → (∀ p ∈ q, p) →
    (∀ k o, l[k]? = some o → ops[i + k]? = some o) → (∀ k x, rs[k]? = some x → R (i + k) = x) →
    tmF st = tmAt R (fun _ => true) tm0 i → heapF st.hp = HAt R (fun _ => true) H0 i → st.nx = nxAt R (fun _ => true) nx0 i →
    rs.length = l.length ∧ (∀ k, k < l.length → RecOk hs P r ops base R tm0 H0 nx0 (i + k) ∧ ∀ d, (R (i + k)).dst = some d → d < st.len) ∧
    tmF s = tmAt R (fun _ => true) tm0 (i + l.length) ∧ heapF s.hp = HAt R (fun _ => true) H0 (i + l.length) ∧ s.nx = nxAt R (fun _ => true) nx0 (i + l.length) ∧ s.len = st.len
  | [], i, st, s, rs, q, h, _, _, _, e1, e2, e3 => by
    simp only [runRec, Option.some.injEq, Prod.mk.injEq] at h
    obtain ⟨rfl, rfl, _⟩ := h
    exact ⟨rfl, fun k hk => by simp at hk, e1, e2, e3, rfl⟩
  | o :: rest, i, st, s, rs, q, h, hq, hl, hR, e1, e2, e3 => by
    simp only [runRec] at h
    split at h
    · rename_i rc q1 h1
      split at h
      · rename_i tm h2
        split at h
        · rename_i l' s' q' h3
          simp only [Option.some.injEq, Prod.mk.injEq] at h
          obtain ⟨rfl, rfl, rfl⟩ := h
          have hRi : R i = rc := hR 0 rc rfl
          have hoi : ops[i]? = some o := hl 0 o rfl
          have hdst : rc.dst = o.dst := by
            unfold recStep at h1
            split at h1
            · split at h1
              · simp only [Option.some.injEq, Prod.mk.injEq] at h1
                rw [← h1.1]
              · cases h1
            · simp only [Option.some.injEq, Prod.mk.injEq] at h1
              rw [← h1.1]
            · cases h1
          obtain ⟨g1, g2, g3, g4, g5, g6⟩ := runRec_ok (R := R) (tm0 := tm0) (H0 := H0) (nx0 := nx0) rest (i + 1) _ _ _ _ h3 (fun p hp => hq p (List.mem_append_right _ hp))
            (fun k o' ho' => by have := hl (k + 1) o' (by simpa using ho'); rwa [show i + (k + 1) = i + 1 + k by omega] at this)
            (fun k x hx => by have := hR (k + 1) x (by simpa using hx); rwa [show i + (k + 1) = i + 1 + k by omega] at this)
            (by
              funext t
              show (tm.get t).getD .any = _
              rw [tmF_put h2 t]
              simp only [tmAt, true_and, hRi, hdst]
              rw [← e1])
            (by
              show heapF (applyT st.hp rc.us) = _
              rw [heapF_applyT, e2]
              simp only [HAt, if_true, hRi])
            (by
              show (if rc.call = true then rc.nxb else st.nx) = _
              simp only [nxAt, true_and, hRi, e3])
          have k2 := putL_len h2
          refine ⟨by simp [g1], fun k hk => ?_, by rw [g3]; congr 1; simp; omega, by rw [g4]; congr 1; simp; omega, by rw [g5]; congr 1; simp; omega, by rw [g6]⟩
          cases k with
          | zero =>
            refine ⟨⟨o, q1, hoi, fun p hp => hq p (List.mem_append_left _ hp), ?_⟩, fun d hd => ?_⟩
            · rw [Nat.add_zero, ← e1, ← e2, ← e3, h1, hRi]
            · rw [Nat.add_zero, hRi, hdst] at hd
              exact k2 d hd
          | succ k =>
            have := g2 k (by simp at hk; omega)
            rw [show i + 1 + k = i + (k + 1) by omega] at this
            refine ⟨this.1, fun d hd => ?_⟩
            exact this.2 d hd
        · cases h
      · cases h
    · cases h
/-- what comes ahead, told by the edges -/
def AncOk (ops : Array Oper) (anc : Nat → Nat → Prop) (n : Nat) : Prop :=
  (∀ i, i < n → ∀ j, anc i j → j < i ∧ ∃ o, ops[i]? = some o ∧ ∃ e, e ∈ o.after ∧ Region.binds .any e = true ∧ (j = e.on ∨ anc e.on j)) ∧
  ∀ i o, ops[i]? = some o → ∀ e ∈ o.after, Region.binds .any e = true → e.on < i

def PairsOk (anc : Nat → Nat → Prop) (R : Nat → Rec) (n : Nat) : Prop :=
  ∀ i j, i < n → j < n → i ≠ j →
    (∀ t, (R j).dst = some t → t ∈ (R i).looks → anc i j ∨ anc j i) ∧
    (∀ t, (R i).dst = some t → (R j).dst ≠ some t) ∧
    ((∃ id x, (id, x) ∈ (R j).us ∧ id ∈ (R i).ids) → anc i j ∨ anc j i) ∧
    ((R i).call = true → (R j).call = true → anc i j ∨ anc j i)

theorem getD_of {listed : Array Bool} {i : Nat} (h : listed.getD i true = false) : i < listed.size ∧ listed.getD i false = false := by
  by_cases hi : i < listed.size
  · simp [hi] at h ⊢; exact h
  · simp [hi] at h

theorem anc_listed {ops : Array Oper} {anc : Nat → Nat → Prop} {n : Nat} (hA : AncOk ops anc n) {X : Nat → Bool} (hdown : ∀ i o, i < n → X i = true → ops[i]? = some o → ∀ e ∈ o.after, Region.binds .any e = true → X e.on = true) :
    ∀ (m i : Nat), i ≤ m → i < n → (∀ o, ops[i]? = some o → ∀ e ∈ o.after, Region.binds .any e = true → X e.on = true) → ∀ j, anc i j → X j = true
  | 0, i, hm, hn, _, j, hj => by have := ((hA.1 i hn j hj).1); omega
  | m + 1, i, hm, hn, h, j, hj => by
    obtain ⟨_, o, ho, e, he, hb, hc⟩ := hA.1 i hn j hj
    have hx := h o ho e he hb
    rcases hc with rfl | hc
    · exact hx
    · have hlt := hA.2 i o ho e he hb
      exact anc_listed hA hdown m e.on (by omega) (by omega) (fun o' ho' e' he' hb' => hdown e.on o' (by omega) hx ho' e' he' hb') j hc

theorem all_listed {ops : Array Oper} {anc : Nat → Nat → Prop} {n : Nat} (hA : AncOk ops anc n) (hn : n = ops.size) {listed : Array Bool} (hs : listed.size = n) (hr : Region.ready .any ops listed = []) : ∀ (m i : Nat), i ≤ m → i < n → listed.getD i false = true := by
  intro m
  induction m with
  | zero =>
    intro i hi hin
    by_cases h : listed.getD i false = true
    · exact h
    · exfalso
      have ho : ops[i]? = some (ops[i]'(by omega)) := Array.getElem?_eq_getElem (by omega)
      have : i ∈ Region.ready .any ops listed := mem_ready.2 ⟨by simp [show i < listed.size by omega] at h ⊢; exact h, _, ho, fun e he hb => by have := hA.2 i _ ho e he hb; omega⟩
      rw [hr] at this
      cases this
  | succ m ih =>
    intro i hi hin
    by_cases h : listed.getD i false = true
    · exact h
    · exfalso
      have ho : ops[i]? = some (ops[i]'(by omega)) := Array.getElem?_eq_getElem (by omega)
      have : i ∈ Region.ready .any ops listed := mem_ready.2 ⟨by simp [show i < listed.size by omega] at h ⊢; exact h, _, ho, fun e he hb => by
        have := hA.2 i _ ho e he hb
        exact ih e.on (by omega) (by omega)⟩
      rw [hr] at this
      cases this

theorem count_set (n : Nat) (X : Nat → Bool) {i : Nat} (hi : i < n) (hx : X i = false) : (List.range n).countP (fun j => !(X j || j == i)) + 1 = (List.range n).countP (fun j => !X j) := by
  induction n with
  | zero => omega
  | succ n ih =>
    rw [List.range_succ, List.countP_append, List.countP_append]
    by_cases e : i = n
    · subst e
      have : (List.range i).countP (fun j => !(X j || j == i)) = (List.range i).countP (fun j => !X j) := by
        apply List.countP_congr
        intro j hj
        simp at hj
        simp [show ¬ j = i by omega]
      rw [this]
      simp [hx]
    · have := ih (by omega)
      have h1 : ([n].countP fun j => !(X j || j == i)) = [n].countP fun j => !X j := by simp [show ¬ n = i by omega]
      rw [h1]
      omega

theorem draw_any (hinl : InlOk P hs.inl) {r : Nat} {ops : Array Oper} {base n len : Nat} {R : Nat → Rec} {tm0 : Nat → AV} {H0 : Heap} {nx0 : Nat} {anc : Nat → Nat → Prop} (hn : n = ops.size) (hrec : ∀ i, i < n → RecOk hs P r ops base R tm0 H0 nx0 i)
    (hdst : ∀ i, i < n → ∀ d, (R i).dst = some d → d < len) (hA : AncOk ops anc n) (hP : PairsOk anc R n) : ∀ (fuel : Nat) (listed : Array Bool) (E : Env) (a : Act) (w : World), listed.size = n →
    (∀ i o, i < n → listed.getD i false = true → ops[i]? = some o → ∀ e ∈ o.after, Region.binds .any e = true → listed.getD e.on false = true) → (List.range n).countP (fun i => !listed.getD i false) ≤ fuel →
    Sat E (nxAt R (fun i => listed.getD i false) nx0 n) (HAt R (fun i => listed.getD i false) H0 n) w → RepT E w (tmAt R (fun i => listed.getD i false) tm0 n) a → a.tmps.size = len → (∀ i, i < n → listed.getD i false = false → E.f (base + i) = none) →
    base + n ≤ nxAt R (fun i => listed.getD i false) nx0 n → ∀ (Q : Exit → Act → World → Prop),
    (∀ E' a' w', Sat E' (nxAt R (fun _ => true) nx0 n) (HAt R (fun _ => true) H0 n) w' → RepT E' w' (tmAt R (fun _ => true) tm0 n) a' → a'.tmps.size = len → Ext E (HAt R (fun i => listed.getD i false) H0 n) w (fun id => base ≤ id) E' (HAt R (fun _ => true) H0 n) w' →
      a'.defers = a.defers → nxAt R (fun i => listed.getD i false) nx0 n ≤ nxAt R (fun _ => true) nx0 n → Q .normal a' w') → wpAny P .any ops Q fuel listed a w := by
  intro fuel
  have done : ∀ (listed : Array Bool) (E : Env) (a : Act) (w : World), listed.size = n → (∀ i, i < n → listed.getD i false = true) →
      Sat E (nxAt R (fun i => listed.getD i false) nx0 n) (HAt R (fun i => listed.getD i false) H0 n) w → RepT E w (tmAt R (fun i => listed.getD i false) tm0 n) a → a.tmps.size = len → ∀ (Q : Exit → Act → World → Prop),
      (∀ E' a' w', Sat E' (nxAt R (fun _ => true) nx0 n) (HAt R (fun _ => true) H0 n) w' → RepT E' w' (tmAt R (fun _ => true) tm0 n) a' → a'.tmps.size = len → Ext E (HAt R (fun i => listed.getD i false) H0 n) w (fun id => base ≤ id) E' (HAt R (fun _ => true) H0 n) w' →
        a'.defers = a.defers → nxAt R (fun i => listed.getD i false) nx0 n ≤ nxAt R (fun _ => true) nx0 n → Q .normal a' w') → Q .normal a w := by
    intro listed E a w _ hall s hr hlen Q hQ
    have e1 : nxAt R (fun i => listed.getD i false) nx0 n = nxAt R (fun _ => true) nx0 n := nxAt_eq n fun j hj _ => hall j hj
    have e2 : HAt R (fun i => listed.getD i false) H0 n = HAt R (fun _ => true) H0 n := funext fun id => HAt_eq n id fun j hj _ => hall j hj
    have e3 : tmAt R (fun i => listed.getD i false) tm0 n = tmAt R (fun _ => true) tm0 n := funext fun t => tmAt_eq n t fun j hj _ => hall j hj
    rw [e1, e2] at s
    rw [e3] at hr
    refine hQ E a w s hr hlen ?_ rfl (by rw [e1]; exact Nat.le_refl _)
    rw [e2]
    exact Ext.refl s
  induction fuel with
  | zero =>
    intro listed E a w hs' hdown hc s hr hlen hfree hb Q hQ
    have hall : ∀ i, i < n → listed.getD i false = true := by
      intro i hi
      have h0 : (List.range n).countP (fun i => !listed.getD i false) = 0 := by omega
      rw [List.countP_eq_zero] at h0
      have := h0 i (List.mem_range.2 hi)
      simpa using this
    refine ⟨?_, done listed E a w hs' hall s hr hlen Q hQ⟩
    apply List.eq_nil_iff_forall_not_mem.2
    intro i hi
    obtain ⟨h1, _⟩ := mem_ready.1 hi
    obtain ⟨h2, h3⟩ := getD_of h1
    rw [hall i (by omega)] at h3
    cases h3
  | succ fuel ih =>
    intro listed E a w hs' hdown hc s hr hlen hfree hb Q hQ
    refine ⟨fun hready => done listed E a w hs' (fun i hi => all_listed hA hn hs' hready i i (Nat.le_refl _) hi) s hr hlen Q hQ, fun i hi => ?_⟩
    obtain ⟨h1, o, ho, hpre⟩ := mem_ready.1 hi
    obtain ⟨h2, h3⟩ := getD_of h1
    have hin : i < n := by omega
    obtain ⟨X, hX⟩ : ∃ X : Nat → Bool, X = fun i => listed.getD i false := ⟨_, rfl⟩
    have hXi : X i = false := by rw [hX]; exact h3
    rw [← hX] at s hr hb hQ
    have hdown' : ∀ i o, i < n → X i = true → ops[i]? = some o → ∀ e ∈ o.after, Region.binds .any e = true → X e.on = true := by rw [hX]; exact hdown
    have ancX : ∀ j, anc i j → X j = true := anc_listed hA hdown' i i (Nat.le_refl _) hin fun o' ho' e he hb' => by
      rw [ho] at ho'
      cases ho'
      rw [hX]
      exact hpre e he hb'
    have ancX' : ∀ j, j < n → anc j i → X j = false := fun j hj hij => by
      cases hx : X j with
      | false => rfl
      | true =>
        have := anc_listed hA hdown' j j (Nat.le_refl _) hj (fun o' ho' => hdown' j o' hj hx ho') i hij
        rw [hXi] at this
        cases this
    have agT : ∀ t ∈ (R i).looks, tmAt R (fun _ => true) tm0 i t = tmAt R X tm0 n t := fun t ht => by
      rw [tmAt_skip (i := i) n t (by omega) fun j hj1 hj2 hd => by
        by_cases e : j = i
        · rw [e]; exact hXi
        · rcases (hP i j hin hj2 (fun h => e h.symm)).1 t hd ht with h | h
          · have := (hA.1 i hin j h).1; omega
          · exact ancX' j hj2 h]
      exact tmAt_eq i t fun j hj hd => by
        rcases (hP i j hin (by omega) (by omega)).1 t hd ht with h | h
        · exact (ancX j h).symm
        · have := (hA.1 j (by omega) i h).1; omega
    have agH : ∀ id ∈ (R i).ids, HAt R (fun _ => true) H0 i id = HAt R X H0 n id := fun id hid => by
      rw [HAt_skip (i := i) n id (by omega) fun j hj1 hj2 hd => by
        by_cases e : j = i
        · rw [e]; exact hXi
        · obtain ⟨x, hx⟩ := hd
          rcases (hP i j hin hj2 (fun h => e h.symm)).2.2.1 ⟨id, x, hx, hid⟩ with h | h
          · have := (hA.1 i hin j h).1; omega
          · exact ancX' j hj2 h]
      exact HAt_eq i id fun j hj hd => by
        obtain ⟨x, hx⟩ := hd
        rcases (hP i j hin (by omega) (by omega)).2.2.1 ⟨id, x, hx, hid⟩ with h | h
        · exact (ancX j h).symm
        · have := (hA.1 j (by omega) i h).1; omega
    have agN : (R i).call = true → nxAt R (fun _ => true) nx0 i = nxAt R X nx0 n := fun hcall => by
      rw [nxAt_skip (i := i) n (by omega) fun j hj1 hj2 hd => by
        by_cases e : j = i
        · rw [e]; exact hXi
        · rcases (hP i j hin hj2 (fun h => e h.symm)).2.2.2 hcall hd with h | h
          · have := (hA.1 i hin j h).1; omega
          · exact ancX' j hj2 h]
      exact nxAt_eq i fun j hj hd => by
        rcases (hP i j hin (by omega) (by omega)).2.2.2 hcall hd with h | h
        · exact (ancX j h).symm
        · have := (hA.1 j (by omega) i h).1; omega
    -- what comes behind
    obtain ⟨Y, hY⟩ : ∃ Y : Nat → Bool, Y = fun j => (listed.setIfInBounds i true).getD j false := ⟨_, rfl⟩
    have hYX : ∀ j, Y j = (X j || j == i) := fun j => by
      rw [hY, hX]
      by_cases e : j = i
      · subst e
        simp [h2]
      · have e' : ¬ i = j := fun h => e h.symm
        simp [Array.getElem?_setIfInBounds_ne e', e]
    have hYcount : (List.range n).countP (fun j => !Y j) ≤ fuel := by
      have := count_set n X hin hXi
      have e1 : (List.range n).countP (fun j => !Y j) = (List.range n).countP (fun j => !(X j || j == i)) := by
        congr 1
        funext j
        rw [hYX]
      have hc' : (List.range n).countP (fun j => !X j) ≤ fuel + 1 := by rw [hX]; exact hc
      omega
    have hYdown : ∀ k o', k < n → Y k = true → ops[k]? = some o' → ∀ e ∈ o'.after, Region.binds .any e = true → Y e.on = true := fun k o' hk hYk ho' e he hbe => by
      rw [hYX] at hYk ⊢
      by_cases ek : k = i
      · subst ek
        rw [ho] at ho'
        cases ho'
        have := hpre e he hbe
        rw [hX]
        simp [this]
      · simp only [Bool.or_eq_true, beq_iff_eq, ek, or_false] at hYk
        rw [hdown' k o' hk hYk ho' e he hbe]
        rfl
    have tmY : ∀ t, tmAt R Y tm0 n t = if (R i).dst = some t then (R i).v else tmAt R X tm0 n t := fun t => tmAt_add hYX hXi n t hin fun j hj1 hj2 hd hd' => (hP i j hin hj2 (by omega)).2.1 t hd' hd
    obtain ⟨o', q, ho', hq, hstep⟩ := hrec i hin
    rw [ho] at ho'
    cases ho'
    have nxY := nxAt_add (R := R) (nx0 := nx0) hYX hXi n hin fun j hj1 hj2 hx hcj hci => by
      rcases (hP i j hin hj2 (by omega)).2.2.2 hci hcj with h | h
      · have := (hA.1 i hin j h).1; omega
      · rw [ancX' j hj2 h] at hx; cases hx
    -- the step itself
    unfold wpOp
    rw [ho]
    show if Region.wanted o (yielded ops a.tmps) = true then _ else _
    have putT : ∀ (E' : Env) (w' : World) (u : Value), o.dst = (R i).dst → More E w E' w' → Rep E' w' (R i).v u → RepT E' w' (tmAt R Y tm0 n) (a.put o.dst u) ∧ (a.put o.dst u).tmps.size = len := fun E' w' u hd m ru => by
      constructor
      · refine ⟨fun t => ?_⟩
        rw [tmY]
        cases hdd : (R i).dst with
        | none =>
          rw [hd, hdd]
          simp only [reduceCtorEq, if_false]
          exact (hr.rep t).more m
        | some d =>
          rw [hd, hdd]
          have hdl := hdst i hin d hdd
          by_cases e : d = t
          · subst e
            simp only [if_true, Act.put]
            have : d < a.tmps.size := Nat.lt_of_lt_of_eq hdl hlen.symm
            simp [this]
            exact ru
          · have e' : ¬ some d = some t := fun h => e (by injection h)
            simp only [e', if_false]
            have := (hr.rep t).more m
            simp [Act.put, Array.getElem?_setIfInBounds_ne e] at this ⊢
            exact this
      · cases o.dst <;> simp [Act.put, hlen]
    unfold recStep at hstep
    split at hstep
    · rename_i q1 hw
      split at hstep
      · rename_i f q2 hop
        simp only [Option.some.injEq, Prod.mk.injEq] at hstep
        obtain ⟨hRi, rfl⟩ := hstep
        have g1 : ∀ t ∈ guardTmp ops o, tmAt R (fun _ => true) tm0 i t = tmAt R X tm0 n t := fun t ht => agT t (by rw [← hRi]; exact List.mem_append_right _ ht)
        have g2 : ∀ t ∈ opTmps o, tmAt R (fun _ => true) tm0 i t = tmAt R X tm0 n t := fun t ht => agT t (by rw [← hRi]; exact List.mem_append_left _ ht)
        have g3 : ∀ id ∈ rdSet (HAt R (fun _ => true) H0 i) (tmAt R (fun _ => true) tm0 i) o (hs.op r i), HAt R (fun _ => true) H0 i id = HAt R X H0 n id := fun id hid => agH id (by rw [← hRi]; exact List.mem_append_left _ hid)
        rw [wantedA_congr g1] at hw
        have hwant := wantedA_ok hr hw fun p hp => hq p (List.mem_append_left _ hp)
        rw [if_pos hwant]
        rw [opStepF_congr g2 g3] at hop
        have hop' : ∃ f' : Eff, opStepF (hs.clAt r i) hs.inl P (tmAt R X tm0 n) (HAt R X H0 n) (nxAt R X nx0 n) (base + i) (hs.op r i) o = some (f', q2) ∧ f'.v = (R i).v ∧ f'.us = (R i).us ∧ f'.nx = nxAt R Y nx0 n := by
          cases hcall : isCall o with
          | none =>
            refine ⟨_, opStepF_nx (nx' := nxAt R X nx0 n) hcall hop, by rw [← hRi], by rw [← hRi], ?_⟩
            rw [nxY, if_neg (by rw [← hRi]; simp [hcall])]
          | some c =>
            have hci : (R i).call = true := by rw [← hRi]; simp [hcall]
            rw [agN hci] at hop
            exact ⟨f, hop, by rw [← hRi], by rw [← hRi], by rw [nxY, if_pos hci, ← hRi]⟩
        obtain ⟨f', hop2, ev, eu, en⟩ := hop'
        have hok := opStepF_ok (a := a) s hr (hfree i hin (by simpa [hX] using hXi)) (by omega) hop2 (fun p hp => hq p (List.mem_append_right _ hp)) hinl
        refine .inl (hok.wp fun E' w' u p => ?_)
        have psat := p.sat
        have pext := p.ext
        have ple := p.le
        rw [eu, en] at psat
        rw [eu] at pext
        rw [en] at ple
        have eH : applyU (HAt R X H0 n) (R i).us = HAt R Y H0 n := funext fun id => (HAt_add hYX hXi n id hin fun j hj1 hj2 hx hd hd' => by
          obtain ⟨x, hx'⟩ := hd
          obtain ⟨y, hy'⟩ := hd'
          have hid : id ∈ (R i).ids := by
            have : (R i).us = f.us := by rw [← hRi]
            rw [this] at hy'
            rw [← hRi]
            exact List.mem_append_right _ (List.mem_map.2 ⟨(id, y), hy', rfl⟩)
          rcases (hP i j hin hj2 (by omega)).2.2.1 ⟨id, x, hx', hid⟩ with h | h
          · have := (hA.1 i hin j h).1; omega
          · rw [ancX' j hj2 h] at hx; cases hx).symm
        rw [eH] at psat pext
        have prep := p.rep
        rw [ev] at prep
        obtain ⟨u1, u2⟩ := putT E' w' u (by rw [← hRi]) (p.ext.more s) prep
        refine ih (listed.setIfInBounds i true) E' (a.put o.dst u) w' (by simp [hs']) (by rw [hY] at hYdown; exact hYdown) (by rw [hY] at hYcount; exact hYcount) (by rw [← hY]; exact psat) (by rw [← hY]; exact u1) u2 (fun k hk hkl => ?_) (by rw [← hY]; omega) Q fun E2 a2 w2 t1 t2 t3 t4 t5 t6 => ?_
        · have hYk : Y k = false := by rw [hY]; exact hkl
          have hki : k ≠ i := fun e => by subst e; rw [hYX] at hYk; simp at hYk
          have hXk : X k = false := by rw [hYX] at hYk; simp at hYk; exact hYk.1
          cases hE : E'.f (base + k) with
          | none => rfl
          | some pl =>
            rcases pext.nw _ _ hE with h | h | h
            · rw [hfree k hk (by simpa [hX] using hXk)] at h; cases h
            · omega
            · omega
        · rw [← hY] at t4 t6
          exact hQ E2 a2 w2 t1 t2 t3 (pext.trans t4 (fun id h => by rcases h with h | h <;> omega) fun _ h => h) (by rw [t5, put_defers]) (Nat.le_trans ple t6)
      · cases hstep
    · rename_i q1 hw
      simp only [Option.some.injEq, Prod.mk.injEq] at hstep
      obtain ⟨hRi, rfl⟩ := hstep
      have g1 : ∀ t ∈ guardTmp ops o, tmAt R (fun _ => true) tm0 i t = tmAt R X tm0 n t := fun t ht => agT t (by rw [← hRi]; exact ht)
      rw [wantedA_congr g1] at hw
      have hwant := wantedA_ok hr hw hq
      rw [if_neg (by rw [hwant]; simp)]
      have hci : ¬ (R i).call = true := by rw [← hRi]; simp
      have eN : nxAt R Y nx0 n = nxAt R X nx0 n := by rw [nxY, if_neg hci]
      have eU : (R i).us = [] := by rw [← hRi]
      have eH : HAt R X H0 n = HAt R Y H0 n := funext fun id => by
        have := HAt_add (H0 := H0) hYX hXi n id hin fun j hj1 hj2 hx hd hd' => (by
          obtain ⟨y, hy'⟩ := hd'
          rw [eU] at hy'
          cases hy')
        rw [this, eU]
        rfl
      obtain ⟨u1, u2⟩ := putT E w undef (by rw [← hRi]) ⟨fun _ _ h => h, fun _ h => h, fun _ _ => rfl⟩ (by rw [← hRi]; exact .val _)
      refine ih (listed.setIfInBounds i true) E (a.put o.dst undef) w (by simp [hs']) (by rw [hY] at hYdown; exact hYdown) (by rw [hY] at hYcount; exact hYcount) (by rw [← hY, eN, ← eH]; exact s) (by rw [← hY]; exact u1) u2 (fun k hk hkl => ?_) (by rw [← hY, eN]; exact hb) Q fun E2 a2 w2 t1 t2 t3 t4 t5 t6 => ?_
      · have hYk : Y k = false := by rw [hY]; exact hkl
        have hXk : X k = false := by rw [hYX] at hYk; simp at hYk; exact hYk.1
        exact hfree k hk (by simpa [hX] using hXk)
      · rw [← hY] at t4 t6
        rw [← eH] at t4
        rw [eN] at t6
        exact hQ E2 a2 w2 t1 t2 t3 t4 (by rw [t5, put_defers]) t6
    · cases hstep
/-! ### the checks -/
theorem ancE_bit (acc : List Nat) (j : Nat) : ∀ es : List Edge, (ancE acc es).testBit j = true ↔ ∃ e, e ∈ es ∧ Region.binds .any e = true ∧ (j = e.on ∨ (acc.getD e.on 0).testBit j = true)
  | [] => by simp [ancE]
  | e :: es => by
    have ih := ancE_bit acc j es
    simp only [ancE]
    by_cases hb : Region.binds .any e = true
    · rw [if_pos hb]
      simp only [Nat.testBit_or, Nat.testBit_two_pow, Bool.or_eq_true, decide_eq_true_eq, ih]
      constructor
      · rintro ((h | h) | ⟨e', h1, h2, h3⟩)
        · exact ⟨e, List.mem_cons_self, hb, .inl h.symm⟩
        · exact ⟨e, List.mem_cons_self, hb, .inr h⟩
        · exact ⟨e', List.mem_cons_of_mem _ h1, h2, h3⟩
      · rintro ⟨e', h1, h2, h3⟩
        rcases List.mem_cons.1 h1 with rfl | h1
        · rcases h3 with h3 | h3
          · exact .inl (.inl h3.symm)
          · exact .inl (.inr h3)
        · exact .inr ⟨e', h1, h2, h3⟩
    · rw [if_neg hb, ih]
      constructor
      · rintro ⟨e', h1, h2, h3⟩
        exact ⟨e', List.mem_cons_of_mem _ h1, h2, h3⟩
      · rintro ⟨e', h1, h2, h3⟩
        rcases List.mem_cons.1 h1 with rfl | h1
        · exact absurd h2 hb
        · exact ⟨e', h1, h2, h3⟩

theorem ancL_get : ∀ (l : List Oper) (acc : List Nat), (∀ i, i < acc.length → (ancL l acc).getD i 0 = acc.getD i 0) ∧ (ancL l acc).length = acc.length + l.length ∧
    ∀ k o, l[k]? = some o → ∃ pre : List Nat, pre.length = acc.length + k ∧ (∀ p, p < acc.length + k → pre.getD p 0 = (ancL l acc).getD p 0) ∧ (ancL l acc).getD (acc.length + k) 0 = ancE pre o.after.toList
  | [], acc => ⟨fun _ _ => rfl, rfl, fun k o h => by simp at h⟩
  | x :: l, acc => by
    simp only [ancL]
    obtain ⟨h1, h2, h3⟩ := ancL_get l (acc ++ [ancE acc x.after.toList])
    have hold : ∀ i, i < acc.length → (ancL l (acc ++ [ancE acc x.after.toList])).getD i 0 = acc.getD i 0 := fun i hi => by
      rw [h1 i (by simp; omega)]
      simp only [List.getD_eq_getElem?_getD]
      rw [List.getElem?_append_left hi]
    refine ⟨hold, by rw [h2]; simp; omega, fun k o hk => ?_⟩
    cases k with
    | zero =>
      simp at hk
      subst hk
      refine ⟨acc, rfl, fun p hp => (hold p (by omega)).symm, ?_⟩
      rw [Nat.add_zero, h1 _ (by simp)]
      simp only [List.getD_eq_getElem?_getD]
      rw [List.getElem?_append_right (Nat.le_refl _)]
      simp
    | succ k =>
      obtain ⟨pre, e1, e2, e3⟩ := h3 k o (by simpa using hk)
      simp only [List.length_append, List.length_singleton] at e1 e2 e3
      refine ⟨pre, by omega, fun p hp => e2 p (by omega), ?_⟩
      rw [show acc.length + (k + 1) = acc.length + 1 + k by omega]
      exact e3

def ancP (ops : Array Oper) (i j : Nat) : Prop := ((ancL ops.toList []).getD i 0).testBit j = true

theorem ancOk_of {ops : Array Oper} (h : statOk ops = true) : AncOk ops (ancP ops) ops.size := by
  unfold statOk at h
  simp only [Bool.and_eq_true] at h
  have lt : ∀ i, i < ops.size → ∀ j, ancP ops i j → j < i := fun i hi j hj => by
    have := List.all_eq_true.1 h.1 i (List.mem_range.2 hi)
    have h2 : (ancL ops.toList []).getD i 0 < 2 ^ i := by simpa using this
    rcases Nat.lt_or_ge j i with hl | hl
    · exact hl
    · have h3 := Nat.testBit_lt_two_pow (Nat.lt_of_lt_of_le h2 (Nat.pow_le_pow_right (by omega) hl))
      unfold ancP at hj
      rw [h3] at hj
      cases hj
  obtain ⟨_, _, h3⟩ := ancL_get ops.toList []
  simp only [List.length_nil, Nat.zero_add] at h3
  constructor
  · intro i hi j hj
    refine ⟨lt i hi j hj, ops[i], by simp [hi], ?_⟩
    obtain ⟨pre, e1, e2, e3⟩ := h3 i ops[i] (by simp [hi])
    unfold ancP at hj
    rw [e3, ancE_bit] at hj
    obtain ⟨e, he, hb, hc⟩ := hj
    refine ⟨e, by simpa using he, hb, ?_⟩
    rcases hc with hc | hc
    · exact .inl hc
    · right
      by_cases hlt : e.on < i
      · unfold ancP
        rw [← e2 _ hlt]
        exact hc
      · rw [List.getD_eq_getElem?_getD, List.getElem?_eq_none (by omega)] at hc
        simp at hc
  · intro i o ho e he hb
    have hi : i < ops.size := (Array.getElem?_eq_some_iff.1 ho).1
    obtain ⟨pre, e1, e2, e3⟩ := h3 i o (by simpa using ho)
    refine lt i hi e.on ?_
    unfold ancP
    rw [e3, ancE_bit]
    exact ⟨e, by simpa using he, hb, .inl rfl⟩

theorem mem_numbered : ∀ (l : List Oper) (i k : Nat) (o : Oper), l[k]? = some o → (i + k, o) ∈ numbered l i
  | [], _, _, _, h => by simp at h
  | x :: l, i, 0, o, h => by
    simp at h
    subst h
    simp [numbered]
  | x :: l, i, k + 1, o, h => by
    have := mem_numbered l (i + 1) k o (by simpa using h)
    rw [show i + 1 + k = i + (k + 1) by omega] at this
    simp only [numbered]
    exact List.mem_cons_of_mem _ this

/-- what is reckoned of an operation bears out what is known beforehand -/
def RecStat (ops : Array Oper) (R : Nat → Rec) (i : Nat) : Prop :=
  ∃ o, ops[i]? = some o ∧ (R i).dst = o.dst ∧ (∀ t ∈ (R i).looks, t ∈ opTmps o ++ guardTmp ops o) ∧ ((R i).call = true → (isCall o).isSome = true)

theorem recStat_of {r : Nat} {ops : Array Oper} {base : Nat} {R : Nat → Rec} {tm0 : Nat → AV} {H0 : Heap} {nx0 : Nat} {i : Nat} (h : RecOk hs P r ops base R tm0 H0 nx0 i) : RecStat ops R i := by
  obtain ⟨o, q, ho, _, hstep⟩ := h
  refine ⟨o, ho, ?_⟩
  unfold recStep at hstep
  split at hstep
  · split at hstep
    · simp only [Option.some.injEq, Prod.mk.injEq] at hstep
      rw [← hstep.1]
      exact ⟨rfl, fun t ht => ht, fun h => h⟩
    · cases hstep
  · simp only [Option.some.injEq, Prod.mk.injEq] at hstep
    rw [← hstep.1]
    exact ⟨rfl, fun t ht => List.mem_append_right _ ht, fun h => by cases h⟩
  · cases hstep

theorem pairsOk_of {ops : Array Oper} {rs : List Rec} {R : Nat → Rec} (hl : rs.length = ops.size) (hR : ∀ k x, rs[k]? = some x → R k = x) (hS : ∀ i, i < ops.size → RecStat ops R i) (h : apartOk ops rs = true) : PairsOk (ancP ops) R ops.size := by
  unfold apartOk at h
  simp only [Bool.and_eq_true] at h
  obtain ⟨h1, h2⟩ := h
  unfold statOk at h1
  simp only [Bool.and_eq_true] at h1
  intro i j hi hj hij
  obtain ⟨x, hx, sx1, sx2, sx3⟩ := hS i hi
  obtain ⟨y, hy, sy1, sy2, sy3⟩ := hS j hj
  have hxy : statPair (ancL ops.toList []) ops i j x y = true := by
    have := List.all_eq_true.1 h1.2 (i, x) (by have := mem_numbered ops.toList 0 i x (by simpa using hx); rwa [Nat.zero_add] at this)
    have := List.all_eq_true.1 this (j, y) (by have := mem_numbered ops.toList 0 j y (by simpa using hy); rwa [Nat.zero_add] at this)
    simpa [hij] using this
  unfold statPair at hxy
  simp only [Bool.and_eq_true] at hxy
  obtain ⟨⟨c1, c2⟩, c3⟩ := hxy
  refine ⟨fun t ht hl' => ?_, fun t ht ht' => ?_, fun ⟨id, z, hz, hid⟩ => ?_, fun hc hc' => ?_⟩
  · rw [sy1] at ht
    rw [ht] at c1
    have hc : (opTmps x ++ guardTmp ops x).contains t = true := by simpa using sx2 t hl'
    simp only [hc, Bool.not_true, Bool.false_or, Bool.or_eq_true] at c1
    exact c1
  · rw [sx1] at ht
    rw [sy1] at ht'
    rw [ht] at c2
    simp [ht'] at c2
  · unfold dynOk at h2
    have ej : rs[j]? = some (rs[j]'(by omega)) := List.getElem?_eq_getElem (by omega)
    have ei : rs[i]? = some (rs[i]'(by omega)) := List.getElem?_eq_getElem (by omega)
    have h3 := List.all_eq_true.1 h2 j (List.mem_range.2 (by omega))
    rw [ej] at h3
    simp only at h3
    rw [hR j _ ej] at hz
    rw [hR i _ ei] at hid
    split at h3
    · rename_i hus
      rw [hus] at hz
      cases hz
    · have h4 := List.all_eq_true.1 h3 i (List.mem_range.2 (by omega))
      rw [ei] at h4
      have h5 : ((rs[j]'(by omega)).us.any fun u => (rs[i]'(by omega)).ids.contains u.1) = true := List.any_eq_true.2 ⟨(id, z), hz, by simpa using hid⟩
      simp only [h5, Bool.or_eq_true, beq_iff_eq, hij, false_or, Bool.not_true, Bool.false_eq_true] at h4
      exact h4
  · have := sx3 hc
    have := sy3 hc'
    simp_all [ancP]
end
end Go.Proofs.YtfofhpkafhpicaaGreatDoor
