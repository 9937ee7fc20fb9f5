/- An engine for walks, eleventh part: a region's operations one behind the other; code; functions. -/
import Derived.Test.YtecmagdefllihaaEj
namespace Go.Proofs.Ytecmagdefllihaa
open Go.RowKit

/-! ### trees by number -/
inductive Tr (α : Type) where
  | leaf
  | node (v : Option α) (l r : Tr α)

def digits : Nat → Nat → List Bool
  | 0, _ => []
  | _ + 1, 0 => []
  | f + 1, n + 1 => ((n + 1) % 2 == 1) :: digits f ((n + 1) / 2)

def digitsVal : List Bool → Nat
  | [] => 0
  | b :: l => (if b then 1 else 0) + 2 * digitsVal l

theorem digitsVal_digits : ∀ (f n : Nat), n ≤ f → digitsVal (digits f n) = n
  | 0, n, h => by simp [digits, digitsVal]; omega
  | f + 1, 0, _ => rfl
  | f + 1, n + 1, h => by
    simp only [digits, digitsVal]
    rw [digitsVal_digits f ((n + 1) / 2) (by omega)]
    by_cases hm : (n + 1) % 2 = 1
    · simp [hm]; omega
    · simp [hm]; omega

def Tr.getD {α : Type} : Tr α → List Bool → Option α
  | .leaf, _ => none
  | .node v _ _, [] => v
  | .node _ l r, b :: p => if b then l.getD p else r.getD p

def Tr.putD {α : Type} (x : Option α) : List Bool → Tr α → Tr α
  | [], .leaf => .node x .leaf .leaf
  | [], .node _ l r => .node x l r
  | b :: p, .leaf => if b then .node none (Tr.putD x p .leaf) .leaf else .node none .leaf (Tr.putD x p .leaf)
  | b :: p, .node v l r => if b then .node v (Tr.putD x p l) r else .node v l (Tr.putD x p r)

theorem Tr.get_put {α : Type} (x : Option α) : ∀ (p : List Bool) (t : Tr α) (q : List Bool), (Tr.putD x p t).getD q = if q = p then x else t.getD q
  | [], .leaf, [] => by simp [putD, Tr.getD]
  | [], .leaf, b :: q => by cases b <;> simp [putD, Tr.getD]
  | [], .node v l r, [] => by simp [putD, Tr.getD]
  | [], .node v l r, b :: q => by cases b <;> simp [putD, Tr.getD]
  | b :: p, .leaf, [] => by cases b <;> simp [putD, Tr.getD]
  | b :: p, .leaf, c :: q => by
    have h1 := Tr.get_put x p .leaf q
    have h2 : (Tr.leaf : Tr α).getD q = none := by cases q <;> rfl
    rw [h2] at h1
    cases b <;> cases c <;> simp [putD, Tr.getD, h1]
  | b :: p, .node v l r, [] => by cases b <;> simp [putD, Tr.getD]
  | b :: p, .node v l r, c :: q => by
    have h1 := Tr.get_put x p l q
    have h2 := Tr.get_put x p r q
    cases b <;> cases c <;> simp [putD, Tr.getD, h1, h2]

def Tr.get {α : Type} (t : Tr α) (n : Nat) : Option α := t.getD (digits n n)
def Tr.put {α : Type} (t : Tr α) (n : Nat) (x : Option α) : Tr α := Tr.putD x (digits n n) t

theorem digits_inj {n m : Nat} (h : digits n n = digits m m) : n = m := by
  rw [← digitsVal_digits n n (Nat.le_refl _), h, digitsVal_digits m m (Nat.le_refl _)]

theorem Tr.get_put' {α : Type} (t : Tr α) (n m : Nat) (x : Option α) : (t.put n x).get m = if m = n then x else t.get m := by
  unfold Tr.put Tr.get
  rw [Tr.get_put]
  by_cases e : m = n
  · subst e; simp
  · rw [if_neg e, if_neg fun h => e (digits_inj h)]

theorem Tr.get_leaf {α : Type} (n : Nat) : (Tr.leaf : Tr α).get n = none := by
  unfold Tr.get
  cases digits n n <;> rfl

structure St where
  len : Nat
  tm : Tr AV
  hp : Tr AObj
  nx : Nat

def tmF (st : St) : Nat → AV := fun t => (st.tm.get t).getD .any
def heapF (t : Tr AObj) : Heap := fun id => t.get id

def applyT (t : Tr AObj) : List (Nat × Option AObj) → Tr AObj
  | [] => t
  | (k, x) :: us => applyT (t.put k x) us

theorem heapF_applyT : ∀ (us : List (Nat × Option AObj)) (t : Tr AObj), heapF (applyT t us) = applyU (heapF t) us
  | [], t => rfl
  | (k, x) :: us, t => by
    have : heapF (t.put k x) = upd (heapF t) k x := by
      funext id
      simp only [heapF, upd, Tr.get_put']
    rw [applyT, heapF_applyT us, this]
    rfl

def putL (st : St) (dst : Option Tmp) (v : AV) : Option (Tr AV) :=
  match dst with
  | none => some st.tm
  | some d => if d < st.len then some (st.tm.put d (some v)) else none

structure RepS (E : Env) (w : World) (st : St) (a : Act) : Prop where
  size : a.tmps.size = st.len
  rep : ∀ t, Rep E w (tmF st t) (a.tmps.getD t undef)

inductive Ex where
  | normal
  | exit (n : Nat)
  | ret
def Ex.to : Ex → Exit
  | .normal => .normal
  | .exit n => .exit n
  | .ret => .ret

/-- a loop whose bound is open: at most n rounds, t is asked each round; what stays from round to round; what stays behind the loop -/
structure LoopFam where
  n : Nat
  t : Tmp
  ts : List Nat
  ids : List Nat
  ts' : List Nat
  ids' : List Nat
  nx : Nat

structure Hints where
  op : Nat → Nat → Option Hn := fun _ _ => none
  gd : Nat → Nat → Option Bool := fun _ _ => none
  br : Nat → Option Bool := fun _ => none
  lp : Nat → Option (Ex × St) := fun _ => none
  fam : Nat → Option LoopFam := fun _ => none
  fuel : Nat := 0
  ob : Nat → Nat → Bool := fun _ _ => false
  sp : Nat → Nat → Bool := fun _ _ => false
  inl : Inl := fun _ _ _ _ => none
  cl : Bool := false

/-- are the conditions of an operation decided, or left to be shown? -/
def Hints.clAt (hs : Hints) (r i : Nat) : Bool := hs.cl && !hs.ob r i

/-- does the operation come up? -/
def wantedA (gd : Option Bool) (ops : Array Oper) (tm : Nat → AV) (o : Oper) : Option (Bool × List Prop) :=
  match o.guard with
  | none => some (true, [])
  | some (j, want) =>
    match (ops[j]?).bind (·.dst) with
    | some t =>
      match tm t with
      | .val (.bool b) =>
        match gd with
        | some bit => some (bit == want, [b = bit])
        | none => some (b == want, [])
      | .val (.tuple _) => some (false, [])
      | _ => none
    | none => none

/-- what the operands hold if they hold anything -/
def unO (tm : Nat → AV) : Nat → AV := fun t => match tm t with | .opt _ v => v | x => x
def unQ (tm : Nat → AV) : List Tmp → List Prop
  | [] => []
  | t :: l => match tm t with | .opt b _ => (b = true) :: unQ tm l | _ => unQ tm l

/-- the operands that must hold something: of a pick of what may hold nothing, the condition alone -/
def sTmps (hn : Option Hn) (o : Oper) : List Tmp :=
  match hn, o.op with
  | some .mrs, .pick c _ _ => (match c with | .tmp t => [t] | _ => [])
  | _, _ => opTmps o
def unOs (ss : List Tmp) (tm : Nat → AV) : Nat → AV := fun t => if ss.contains t then unO tm t else tm t

/-- under what condition does the operation come up? -/
def whenA (ops : Array Oper) (tm : Nat → AV) (o : Oper) : Option Bool :=
  match o.guard with
  | some (j, want) =>
    match (ops[j]?).bind (·.dst) with
    | some t =>
      match tm t with
      | .val (.bool b) => some (bif want then b else !b)
      | .opt b' (.val (.bool b)) => some (b' && (bif want then b else !b))
      | _ => none
    | none => none
  | none => none

def runOps (hs : Hints) (P : Program) (r : Nat) (ops : Array Oper) (base : Nat) : List Oper → Nat → St → Option (St × List Prop)
  | [], _, st => some (st, [])
  | o :: rest, i, st =>
    if hs.sp r i = true then
      match whenA ops (tmF st) o with
      | some g =>
        match opStepF (hs.clAt r i) hs.inl P (tmOf (opTmps o) (unOs (sTmps (hs.op r i) o) (tmF st))) (heapF st.hp) st.nx (base + i) (hs.op r i) o with
        | some (f, q2) =>
          match f.us, putL st o.dst (.opt g f.v) with
          | [], some tm => if st.nx ≤ f.nx then (runOps hs P r ops base rest (i + 1) ⟨st.len, tm, st.hp, f.nx⟩).map fun (s, q3) => (s, (unQ (tmF st) (sTmps (hs.op r i) o) ++ q2).map (fun p => g = true → p) ++ q3) else none
          | _, _ => none
        | none => none
      | none => none
    else
    match wantedA (hs.gd r i) ops (tmF st) o with
    | some (true, q) =>
      match opStepF (hs.clAt r i) hs.inl P (tmF st) (heapF st.hp) st.nx (base + i) (hs.op r i) o with
      | some (f, q2) =>
        match putL st o.dst f.v with
        | some tm => (runOps hs P r ops base rest (i + 1) ⟨st.len, tm, applyT st.hp f.us, f.nx⟩).map fun (s, q3) => (s, q ++ (q2 ++ q3))
        | none => none
      | none => none
    | some (false, q) =>
      match putL st o.dst (.val undef) with
      | some tm => (runOps hs P r ops base rest (i + 1) ⟨st.len, tm, st.hp, st.nx⟩).map fun (s, q3) => (s, q ++ q3)
      | none => none
    | none => none

section
variable {P : Program} {E E' : Env} {w w' : World} {a : Act}

theorem RepS.repT {st : St} (h : RepS E w st a) : RepT E w (tmF st) a := ⟨h.rep⟩

theorem RepS.put {st : St} {tm' : Tr AV} {dst : Option Tmp} {v : AV} {u : Value} (h : RepS E w st a) (m : More E w E' w') (hp : putL st dst v = some tm') (r : Rep E' w' v u) (H : Tr AObj) (nx : Nat) : RepS E' w' ⟨st.len, tm', H, nx⟩ (a.put dst u) := by
  unfold putL at hp
  split at hp
  · injection hp with hp
    subst hp
    exact ⟨h.size, fun t => (h.rep t).more m⟩
  · rename_i d
    split at hp
    · rename_i hd
      injection hp with hp
      subst hp
      refine ⟨by simp [Act.put, h.size], fun t => ?_⟩
      show Rep E' w' (((st.tm.put d (some v)).get t).getD .any) _
      rw [Tr.get_put']
      by_cases e : t = d
      · subst e
        have : t < a.tmps.size := by rw [h.size]; exact hd
        simp [Act.put, this]
        exact r
      · have := (h.rep t).more m
        have e' : ¬ d = t := fun h => e h.symm
        simp [Act.put, e, Array.getElem?_setIfInBounds_ne e'] at this ⊢
        exact this
    · cases hp

theorem put_defers (a : Act) (d : Option Tmp) (u : Value) : (a.put d u).defers = a.defers := by cases d <;> rfl

theorem wantedA_ok {gd : Option Bool} {ops : Array Oper} {tm : Nat → AV} {o : Oper} {b : Bool} {q : List Prop} (h : RepT E w tm a) (hw : wantedA gd ops tm o = some (b, q)) (hq : ∀ p ∈ q, p) : Region.wanted o (yielded ops a.tmps) = b := by
  unfold wantedA at hw
  unfold Region.wanted
  split at hw
  · rename_i hg
    simp only [Option.some.injEq, Prod.mk.injEq] at hw
    rw [hg]
    exact hw.1
  · rename_i j want hg
    rw [hg]
    split at hw
    · rename_i t ht
      have ex : ∀ v : Value, v ≠ undef → a.tmps.getD t undef = v → a.tmps[t]? = some v := by
        intro v hv he
        by_cases hlt : t < a.tmps.size
        · simp [hlt] at he ⊢; exact he
        · exfalso; apply hv; rw [← he]; simp [hlt]
      split at hw
      · rename_i b' hb'
        have hr := h.rep t
        rw [hb'] at hr
        have hv := ex _ (by simp [undef]) hr.val_inv
        have hy : yielded ops a.tmps j = some b' := by
          unfold yielded
          rw [ht]
          simp only [Option.bind_some, hv]
        split at hw
        · rename_i bit
          simp only [Option.some.injEq, Prod.mk.injEq] at hw
          obtain ⟨h1, rfl⟩ := hw
          have : b' = bit := hq _ (List.mem_singleton.2 rfl)
          subst this
          simp only [hy, ← h1]
          cases b' <;> cases want <;> rfl
        · simp only [Option.some.injEq, Prod.mk.injEq] at hw
          obtain ⟨h1, _⟩ := hw
          simp only [hy, ← h1]
          cases b' <;> cases want <;> rfl
      · rename_i vs hb'
        simp only [Option.some.injEq, Prod.mk.injEq] at hw
        have hr := h.rep t
        rw [hb'] at hr
        have hv := hr.val_inv
        have hy : yielded ops a.tmps j = none := by
          unfold yielded
          rw [ht]
          simp only [Option.bind_some]
          by_cases hlt : t < a.tmps.size
          · simp [hlt] at hv ⊢
            rw [hv]
          · simp [hlt]
        simp only [hy, ← hw.1]
        cases want <;> rfl
      · cases hw
    · cases hw

theorem whenA_ok {ops : Array Oper} {tm : Nat → AV} {o : Oper} {g : Bool} (h : RepT E w tm a) (hw : whenA ops tm o = some g) : Region.wanted o (yielded ops a.tmps) = g := by
  unfold whenA at hw
  unfold Region.wanted
  split at hw
  · rename_i j want hg
    rw [hg]
    split at hw
    · rename_i t ht
      have ex : ∀ v : Value, v ≠ undef → a.tmps.getD t undef = v → a.tmps[t]? = some v := by
        intro v hv he
        by_cases hlt : t < a.tmps.size
        · simp [hlt] at he ⊢; exact he
        · exfalso; apply hv; rw [← he]; simp [hlt]
      have yes : ∀ b : Bool, a.tmps.getD t undef = .bool b → yielded ops a.tmps j = some b := fun b hb => by
        have hv := ex _ (by simp [undef]) hb
        unfold yielded
        rw [ht]
        simp only [Option.bind_some, hv]
      have no : a.tmps.getD t undef = .tuple #[] → yielded ops a.tmps j = none := fun hb => by
        unfold yielded
        rw [ht]
        simp only [Option.bind_some]
        by_cases hlt : t < a.tmps.size
        · simp [hlt] at hb ⊢
          rw [hb]
        · simp [hlt]
      split at hw
      · rename_i b hb
        injection hw with hw
        subst hw
        have hr := h.rep t
        rw [hb] at hr
        simp only [yes b hr.val_inv]
        cases b <;> cases want <;> rfl
      · rename_i b' b hb
        injection hw with hw
        subst hw
        have hr := h.rep t
        rw [hb] at hr
        cases hr with
        | opt h1 h2 =>
          cases b' with
          | true =>
            simp only [yes b (h1 rfl).val_inv]
            cases b <;> cases want <;> rfl
          | false =>
            simp only [no (h2 rfl)]
            cases want <;> rfl
      · cases hw
    · cases hw
  · cases hw

theorem unOs_rep {tm : Nat → AV} {ts ss : List Tmp} (h : RepT E w tm a) (hq : ∀ p ∈ unQ tm ss, p) : RepT E w (tmOf ts (unOs ss tm)) a := by
  refine ⟨fun t => ?_⟩
  unfold tmOf
  split
  · unfold unOs
    split
    · rename_i ht
      have key : ∀ (l : List Tmp), (∀ p ∈ unQ tm l, p) → t ∈ l → Rep E w (unO tm t) (a.tmps.getD t undef) := by
        intro l
        induction l with
        | nil => intro _ hm; cases hm
        | cons x l ih =>
          intro hql hm
          have hr := h.rep t
          rcases List.mem_cons.1 hm with rfl | hm
          · simp only [unQ] at hql
            unfold unO
            split at hql
            · rename_i b v e
              rw [e] at hr
              cases hr with
              | opt h1 h2 => exact h1 (hql _ List.mem_cons_self)
            · exact hr
          · refine ih (fun p hp => hql p ?_) hm
            simp only [unQ]
            split
            · exact List.mem_cons_of_mem _ hp
            · exact hp
      exact key ss hq (by simpa using ht)
    · exact h.rep t
  · exact .any _

theorem runOps_ok {hs : Hints} (hinl : InlOk P hs.inl) {r : Nat} {ops : Array Oper} {base n : Nat} : ∀ (l : List Oper) (i : Nat) (st st' : St) (q : List Prop) (E : Env) (a : Act) (w : World), runOps hs P r ops base l i st = some (st', q) → (∀ p ∈ q, p) →
    i + l.length = n → base + n ≤ st.nx → (∀ k, i ≤ k → k < n → E.f (base + k) = none) → Sat E st.nx (heapF st.hp) w → RepS E w st a → ∀ (Q : Exit → Act → World → Prop),
    (∀ E' a' w', Sat E' st'.nx (heapF st'.hp) w' → RepS E' w' st' a' → Ext E (heapF st.hp) w (fun id => base ≤ id) E' (heapF st'.hp) w' → a'.defers = a.defers → st.nx ≤ st'.nx → Q .normal a' w') → wpList P ops Q l a w
  | [], i, st, st', q, E, a, w, h, _, _, _, _, s, hr, Q, hQ => by
    simp only [runOps, Option.some.injEq, Prod.mk.injEq] at h
    obtain ⟨rfl, _⟩ := h
    exact hQ E a w s hr (Ext.refl s) rfl (Nat.le_refl _)
  | o :: rest, i, st, st', q, E, a, w, h, hq, hn, hb, hfree, s, hr, Q, hQ => by
    simp only [runOps] at h
    simp only [List.length_cons] at hn
    split at h
    · split at h
      · rename_i g hg
        split at h
        · rename_i f q2 hstep
          split at h
          · rename_i tm hus hput
            split at h
            · rename_i hle
              simp only [Option.map_eq_some_iff, Prod.mk.injEq] at h
              obtain ⟨⟨s3, q3⟩, h3, rfl, rfl⟩ := h
              have hwant := whenA_ok hr.repT hg
              cases g with
              | true =>
                have hq' : ∀ p ∈ unQ (tmF st) (sTmps (hs.op r i) o) ++ q2, p := fun p hp => hq (true = true → p) (List.mem_append_left _ (List.mem_map.2 ⟨p, hp, rfl⟩)) rfl
                have hok := opStepF_ok (a := a) (o := o) s (unOs_rep hr.repT fun p hp => hq' p (List.mem_append_left _ hp)) (hfree i (Nat.le_refl _) (by omega)) (by omega) hstep (fun p hp => hq' p (List.mem_append_right _ hp)) hinl
                unfold wpList
                rw [if_pos hwant]
                refine .inl (hok.wp fun E' w' u p => ?_)
                have psat := p.sat
                have pext := p.ext
                rw [hus] at psat pext
                simp only [applyU, List.foldl_nil] at psat pext
                refine runOps_ok (n := n) hinl rest (i + 1) ⟨st.len, tm, st.hp, f.nx⟩ s3 q3 E' _ w' h3 (fun p hp => hq p (List.mem_append_right _ hp)) (by omega) (by show base + n ≤ f.nx; omega) (fun k hk1 hk2 => ?_) psat (hr.put (p.ext.more s) hput (.opt (fun _ => p.rep) (fun e => by cases e)) _ _) Q fun E2 a2 w2 t1 t2 t3 t4 t5 => ?_
                · cases hE : E'.f (base + k) with
                  | none => rfl
                  | some pl =>
                    rcases pext.nw _ _ hE with h | h | h
                    · rw [hfree k (by omega) hk2] at h; cases h
                    · omega
                    · omega
                · exact hQ E2 a2 w2 t1 t2 (pext.trans t3 (fun id h => by rcases h with h | h <;> omega) fun _ h => h) (by rw [t4, put_defers]) (Nat.le_trans hle t5)
              | false =>
                unfold wpList
                rw [if_neg (by rw [hwant]; simp)]
                refine runOps_ok (n := n) hinl rest (i + 1) ⟨st.len, tm, st.hp, f.nx⟩ s3 q3 E _ w h3 (fun p hp => hq p (List.mem_append_right _ hp)) (by omega) (by show base + n ≤ f.nx; omega) (fun k hk1 hk2 => hfree k (Nat.le_of_succ_le hk1) hk2) (s.up hle) (hr.put ⟨fun _ _ h => h, fun _ h => h, fun _ _ => rfl⟩ hput (.opt (fun e => by cases e) (fun _ => rfl)) _ _) Q fun E2 a2 w2 t1 t2 t3 t4 t5 => hQ E2 a2 w2 t1 t2 t3 (by rw [t4, put_defers]) (Nat.le_trans hle t5)
            · cases h
          · cases h
        · cases h
      · cases h
    split at h
    · rename_i q1 hw
      split at h
      · rename_i f q2 hstep
        split at h
        · rename_i tm hput
          simp only [Option.map_eq_some_iff, Prod.mk.injEq] at h
          obtain ⟨⟨s3, q3⟩, h3, rfl, rfl⟩ := h
          have hwant := wantedA_ok hr.repT hw fun p hp => hq p (List.mem_append_left _ hp)
          have hok := opStepF_ok (a := a) (o := o) s hr.repT (hfree i (Nat.le_refl _) (by omega)) (by omega) hstep (fun p hp => hq p (List.mem_append_right _ (List.mem_append_left _ hp))) hinl
          unfold wpList
          rw [if_pos hwant]
          refine .inl (hok.wp fun E' w' u p => ?_)
          have hnx := p.le
          have psat := p.sat
          rw [← heapF_applyT] at psat
          have pext := p.ext
          rw [← heapF_applyT] at pext
          refine runOps_ok (n := n) hinl rest (i + 1) ⟨st.len, tm, applyT st.hp f.us, f.nx⟩ s3 q3 E' _ w' h3 (fun p hp => hq p (List.mem_append_right _ (List.mem_append_right _ hp))) (by omega) (by show base + n ≤ f.nx; omega) (fun k hk1 hk2 => ?_) psat (hr.put (p.ext.more s) hput p.rep _ _) Q fun E2 a2 w2 t1 t2 t3 t4 t5 => ?_
          · cases hE : E'.f (base + k) with
            | none => rfl
            | some pl =>
              rcases pext.nw _ _ hE with h | h | h
              · rw [hfree k (by omega) hk2] at h; cases h
              · omega
              · omega
          · exact hQ E2 a2 w2 t1 t2 (pext.trans t3 (fun id h => by rcases h with h | h <;> omega) fun _ h => h) (by rw [t4, put_defers]) (Nat.le_trans hnx t5)
        · cases h
      · cases h
    · rename_i q1 hw
      split at h
      · rename_i tm hput
        simp only [Option.map_eq_some_iff, Prod.mk.injEq] at h
        obtain ⟨⟨s3, q3⟩, h3, rfl, rfl⟩ := h
        have hwant := wantedA_ok hr.repT hw fun p hp => hq p (List.mem_append_left _ hp)
        unfold wpList
        rw [if_neg (by rw [hwant]; simp)]
        refine runOps_ok (n := n) hinl rest (i + 1) ⟨st.len, tm, st.hp, st.nx⟩ s3 q3 E _ w h3 (fun p hp => hq p (List.mem_append_right _ hp)) (by omega) hb (fun k hk1 hk2 => hfree k (Nat.le_of_succ_le hk1) hk2) s (hr.put ⟨fun _ _ h => h, fun _ h => h, fun _ _ => rfl⟩ hput (.val _) _ _) Q fun E2 a2 w2 t1 t2 t3 t4 t5 => hQ E2 a2 w2 t1 t2 t3 (by rw [t4, put_defers]) t5
      · cases h
    · cases h
end
end Go.Proofs.Ytecmagdefllihaa
