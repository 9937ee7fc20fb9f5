/- Several texts in one: Es, El, Em, Ep. -/
import Derived.Test.YtfofhpkafhpicaaGreatDoorMek

/- An engine for walks: states that forget, and what is the same. -/
namespace Go.Proofs.YtfofhpkafhpicaaGreatDoor
open Go.RowKit

def keepG {α : Type} (t : Tr α) : List Nat → Tr α
  | [] => .leaf
  | i :: l => match t.get i with
    | some v => (keepG t l).put i (some v)
    | none => keepG t l

theorem keepG_get {α : Type} (t : Tr α) : ∀ (l : List Nat) (k : Nat), (keepG t l).get k = none ∨ (k ∈ l ∧ (keepG t l).get k = t.get k)
  | [], k => .inl (Tr.get_leaf k)
  | i :: l, k => by
    have ih := keepG_get t l k
    unfold keepG
    split
    · rename_i v hv
      rw [Tr.get_put']
      by_cases e : k = i
      · subst e
        rw [if_pos rfl]
        exact .inr ⟨List.mem_cons_self, hv.symm⟩
      · rw [if_neg e]
        exact ih.imp id fun h => ⟨List.mem_cons_of_mem _ h.1, h.2⟩
    · exact ih.imp id fun h => ⟨List.mem_cons_of_mem _ h.1, h.2⟩

/-- only these temporaries and objects stay; more numbers are spent -/
def St.trim (s : St) (ts ids : List Nat) (nx : Nat) : St := ⟨s.len, keepG s.tm ts, keepG s.hp ids, max s.nx nx⟩

/-- what the one state says the other says too -/
structure Less (s' s : St) : Prop where
  len : s'.len = s.len
  tm : ∀ t, tmF s' t = .any ∨ tmF s' t = tmF s t
  hp : ∀ id x, heapF s'.hp id = some x → heapF s.hp id = some x
  nx : s.nx ≤ s'.nx

theorem Less.refl (s : St) : Less s s := ⟨rfl, fun _ => .inr rfl, fun _ _ h => h, Nat.le_refl _⟩
theorem Less.trans {a b c : St} (x : Less a b) (y : Less b c) : Less a c :=
  ⟨x.len.trans y.len, fun t => (x.tm t).elim .inl fun h => (y.tm t).elim (fun h' => .inl (h.trans h')) fun h' => .inr (h.trans h'), fun id x' h => y.hp id x' (x.hp id x' h), Nat.le_trans y.nx x.nx⟩

theorem Less.trim (s : St) (ts ids : List Nat) (nx : Nat) : Less (s.trim ts ids nx) s := by
  refine ⟨rfl, fun t => ?_, fun id x h => ?_, Nat.le_max_left _ _⟩
  · rcases keepG_get s.tm ts t with h | ⟨_, h⟩
    · left; simp [tmF, St.trim, h]
    · right; simp [tmF, St.trim, h]
  · rcases keepG_get s.hp ids id with h' | ⟨_, h'⟩
    · simp [heapF, St.trim, h'] at h
    · simp only [heapF, St.trim, h'] at h
      exact h

def valSame : Value → Value → Bool
  | .bool a, .bool b => a == b
  | .int k a, .int k' b => decide (k = k') && decide (a = b)
  | .pointer none, .pointer none => true
  | .slice none 0 0, .slice none 0 0 => true
  | _, _ => false
theorem valSame_ok {u v : Value} (h : valSame u v = true) : u = v := by
  unfold valSame at h
  split at h
  · rw [beq_iff_eq] at h; rw [h]
  · simp only [Bool.and_eq_true, decide_eq_true_eq] at h; rw [h.1, h.2]
  · rfl
  · rfl
  · cases h

mutual
def AV.same : AV → AV → Bool
  | .val u, .val v => valSame u v
  | .ptr a b c, .ptr a' b' c' => a == a' && b == b' && c == c'
  | .sl a b c d, .sl a' b' c' d' => a == a' && b == b' && c == c' && d == d'
  | .agg l, .agg l' => sameL l l'
  | .tup l, .tup l' => sameL l l'
  | .any, .any => true
  | .emap, .emap => true
  | _, _ => false
def sameL : List AV → List AV → Bool
  | [], [] => true
  | x :: l, y :: l' => x.same y && sameL l l'
  | _, _ => false
end
mutual
theorem AV.same_ok : ∀ {x y : AV}, x.same y = true → x = y
  | .val u, y, h => by cases y <;> simp [AV.same] at h; rw [valSame_ok h]
  | .ptr .., y, h => by cases y <;> simp [AV.same] at h; simp [h]
  | .sl .., y, h => by cases y <;> simp [AV.same] at h; simp [h]
  | .agg l, y, h => by cases y <;> simp [AV.same] at h; rw [sameL_ok h]
  | .tup l, y, h => by cases y <;> simp [AV.same] at h; rw [sameL_ok h]
  | .any, y, h => by cases y <;> simp [AV.same] at h; rfl
  | .emap, y, h => by cases y <;> simp [AV.same] at h; rfl
  | .iptr _, y, h => by simp [AV.same] at h
  | .csl .., y, h => by simp [AV.same] at h
  | .bytes _, y, h => by simp [AV.same] at h
  | .view .., y, h => by simp [AV.same] at h
  | .fn .., y, h => by simp [AV.same] at h
theorem sameL_ok : ∀ {l l' : List AV}, sameL l l' = true → l = l'
  | [], l', h => by cases l' <;> simp [sameL] at h; rfl
  | x :: l, l', h => by
    cases l' with
    | nil => simp [sameL] at h
    | cons y l' =>
      simp only [sameL, Bool.and_eq_true] at h
      rw [AV.same_ok h.1, sameL_ok h.2]
end

def sameLL : List (List AV) → List (List AV) → Bool
  | [], [] => true
  | x :: l, y :: l' => sameL x y && sameLL l l'
  | _, _ => false
theorem sameLL_ok : ∀ {l l' : List (List AV)}, sameLL l l' = true → l = l'
  | [], l', h => by cases l' <;> simp [sameLL] at h; rfl
  | x :: l, l', h => by
    cases l' with
    | nil => simp [sameLL] at h
    | cons y l' =>
      simp only [sameLL, Bool.and_eq_true] at h
      rw [sameL_ok h.1, sameLL_ok h.2]

def AObj.same (a b : AObj) : Bool :=
  a.t == b.t && a.sz == b.sz && a.exact == b.exact && a.fz == b.fz && match a.body, b.body with
  | .rows l, .rows l' => sameLL l l'
  | .bytes l, .bytes l' => l == l'
  | _, _ => false
theorem AObj.same_ok {a b : AObj} (h : a.same b = true) : a = b := by
  obtain ⟨t, sz, ex, fz, body⟩ := a
  obtain ⟨t', sz', ex', fz', body'⟩ := b
  simp only [AObj.same, Bool.and_eq_true, beq_iff_eq] at h
  obtain ⟨⟨⟨⟨rfl, rfl⟩, rfl⟩, rfl⟩, h⟩ := h
  split at h
  · rw [sameLL_ok h]
  · rw [beq_iff_eq] at h
    rw [h]
  · cases h

/-- does s say what s' says, at these places? -/
def saysAt (s' s : St) (ts ids : List Nat) : Bool :=
  s'.len == s.len && decide (s.nx ≤ s'.nx) && (ts.all fun t => (tmF s' t).same (tmF s t)) && ids.all fun id =>
    match heapF s'.hp id, heapF s.hp id with
    | some x, some y => x.same y
    | none, _ => true
    | _, _ => false

theorem saysAt_ok {X s : St} {ts ids : List Nat} {nx : Nat} (h : saysAt (X.trim ts ids nx) s ts ids = true) : Less (X.trim ts ids nx) s := by
  simp only [saysAt, Bool.and_eq_true, beq_iff_eq, decide_eq_true_eq, List.all_eq_true] at h
  obtain ⟨⟨⟨h1, h2⟩, h3⟩, h4⟩ := h
  refine ⟨h1, fun t => ?_, fun id x hx => ?_, h2⟩
  · rcases keepG_get X.tm ts t with h | ⟨h, _⟩
    · left; simp [tmF, St.trim, h]
    · exact .inr (AV.same_ok (h3 t h))
  · rcases keepG_get X.hp ids id with h' | ⟨hm, _⟩
    · simp [heapF, St.trim, h'] at hx
    · have := h4 id hm
      rw [hx] at this
      split at this
      · rename_i x' y' e1 e2
        cases e1
        rw [e2, AObj.same_ok this]
      · rename_i e1; cases e1
      · cases this
end Go.Proofs.YtfofhpkafhpicaaGreatDoor

/- An engine for walks, twelfth part: code and functions. -/
namespace Go.Proofs.YtfofhpkafhpicaaGreatDoor
open Go.RowKit

/-- out of that state the code comes to this one, by this exit -/
def Ev (P : Program) (c : Code) (st : St) (ex : Ex) (st' : St) : Prop :=
  ∀ (E : Env) (a : Act) (w : World), Sat E st.nx (heapF st.hp) w → RepS E w st a → ∀ (Q : Exit → Act → World → Prop),
    (∀ E' a' w', Sat E' st'.nx (heapF st'.hp) w' → RepS E' w' st' a' → Ext E (heapF st.hp) w (fun id => st.nx ≤ id) E' (heapF st'.hp) w' → a'.defers = a.defers → st.nx ≤ st'.nx → Q ex.to a' w') → c.wp P Q a w

abbrev OutC := Option (Ex × St × List Prop)

def runLoop (f : St → OutC) : Nat → St → OutC
  | 0, _ => none
  | n + 1, st =>
    match f st with
    | some (.normal, s, q) =>
      match runLoop f n s with
      | some (e, s', q') => some (e, s', q ++ q')
      | none => none
    | r => r

def firstRegion : Code → Nat
  | .region r _ _ => r
  | .seq a _ => firstRegion a
  | .block _ b => firstRegion b
  | .loop b => firstRegion b
  | _ => 0

def runRegion (hs : Hints) (P : Program) (r : Nat) (ops : Array Oper) (st : St) : OutC :=
  match runOps hs P r ops st.nx ops.toList 0 ⟨st.len, st.tm, st.hp, st.nx + ops.size⟩ with
  | some (s, q) => some (.normal, s, q)
  | none => none

/-- a region whose order is open -/
def runDraw (hs : Hints) (P : Program) (r : Nat) (ops : Array Oper) (st : St) : OutC :=
  match runRec hs P r ops st.nx ops.toList 0 ⟨st.len, st.tm, st.hp, st.nx + ops.size⟩ with
  | some (rs, s, q) => if P.follows .mixedOrders && apartOk ops rs then some (.normal, s, q) else none
  | none => none

/-- one of the rounds is the last -/
def famP : List (List Prop × List Prop) → Prop
  | [] => False
  | (q', q) :: l => (∀ p ∈ q, p) ∨ ((∀ p ∈ q', p) ∧ famP l)

def runFam (f : Bool → St → OutC) (F : LoopFam) : Nat → St → Option (Nat × St × List (List Prop × List Prop))
  | 0, st =>
    match f false st with
    | some (.exit e, s, q) => some (e, s.trim F.ts' F.ids' F.nx, [([False], q)])
    | _ => none
  | n + 1, st =>
    match f false st with
    | some (.exit e, s, q) =>
      match f true st with
      | some (.normal, s', q') =>
        match runFam f F n (s'.trim F.ts F.ids 0) with
        | some (e2, s2, l) => if e2 = e ∧ saysAt s2 s F.ts' F.ids' = true then some (e, s2, (q', q) :: l) else none
        | none => none
      | _ => none
    | _ => none

def Hints.at (hs : Hints) (t : Tmp) (bit : Bool) : Hints := { hs with br := fun k => if k = t then some bit else hs.br k }

def run : Hints → Program → Code → St → OutC
  | _, _, .skip, st => some (.normal, st, [])
  | _, _, .label _, st => some (.normal, st, [])
  | _, _, .exit n, st => some (.exit n, st, [])
  | _, _, .ret, st => some (.ret, st, [])
  | hs, P, .region r ops false, st => runRegion hs P r ops st
  | hs, P, .region r ops true, st => runDraw hs P r ops st
  | hs, P, .seq x y, st =>
    match run hs P x st with
    | some (.normal, s, q) =>
      match run hs P y s with
      | some (e, s', q') => some (e, s', q ++ q')
      | none => none
    | r => r
  | hs, P, .cond (.tmp t) x y, st =>
    match tmF st t with
    | .val (.bool b) =>
      match hs.br t with
      | some bit =>
        match (if bit then run hs P x st else run hs P y st) with
        | some (e, s, q) => some (e, s, (b = bit) :: q)
        | none => none
      | none => if b then run hs P x st else run hs P y st
    | _ => none
  | hs, P, .cond (.const (.bool b)) x y, st => if b then run hs P x st else run hs P y st
  | hs, P, .block n b, st =>
    match run hs P b st with
    | some (.exit i, s, q) => if i = n then some (.normal, s, q) else some (.exit i, s, q)
    | r => r
  | hs, P, .loop b, st =>
    match hs.fam (firstRegion b) with
    | some F =>
      match runFam (fun bit => run (hs.at F.t bit) P b) F F.n st with
      | some (e, s, q) => some (.exit e, s, [famP q])
      | none => none
    | none =>
    match hs.lp (firstRegion b) with
    | some (e, s) => some (e, s, [Ev P (.loop b) st e s])
    | none => runLoop (run hs P b) hs.fuel st
  | _, _, _, _ => none

section
variable {P : Program} {hs : Hints}

theorem Ev.refl {c : Code} {st : St} {ex : Ex} (h : ∀ a w (Q : Exit → Act → World → Prop), Q ex.to a w → c.wp P Q a w) : Ev P c st ex st :=
  fun _ a w s hr Q hQ => h a w Q (hQ _ a w s hr (Ext.refl s) rfl (Nat.le_refl _))

theorem ext_up {E E' E'' : Env} {H H' H'' : Heap} {w w' w'' : World} {n m : Nat} (x : Ext E H w (fun id => n ≤ id) E' H' w') (y : Ext E' H' w' (fun id => m ≤ id) E'' H'' w'') (h : n ≤ m) : Ext E H w (fun id => n ≤ id) E'' H'' w'' :=
  x.trans y (fun _ h => h) fun _ h' => Nat.le_trans h h'

theorem Ev.seq {x y : Code} {st s s' : St} {ex : Ex} (h1 : Ev P x st .normal s) (h2 : Ev P y s ex s') : Ev P (.seq x y) st ex s' := by
  refine fun E a w hs hr Q hQ => wp_seq (h1 E a w hs hr _ fun E1 a1 w1 t1 t2 t3 t4 t5 => ?_)
  exact h2 E1 a1 w1 t1 t2 Q fun E2 a2 w2 u1 u2 u3 u4 u5 => hQ E2 a2 w2 u1 u2 (ext_up t3 u3 t5) (u4.trans t4) (Nat.le_trans t5 u5)

theorem Ev.seq_out {x y : Code} {st s : St} {ex : Ex} (h1 : Ev P x st ex s) (hne : ex ≠ .normal) : Ev P (.seq x y) st ex s :=
  fun E a w hs hr Q hQ => wp_seq (h1 E a w hs hr _ fun E1 a1 w1 t1 t2 t3 t4 t5 => by
    have := hQ E1 a1 w1 t1 t2 t3 t4 t5
    cases ex with
    | normal => exact absurd rfl hne
    | exit n => exact this
    | ret => exact this)

theorem Ev.cond {t : Tmp} {x y : Code} {st s : St} {ex : Ex} {b : Bool} (hc : tmF st t = .val (.bool b)) (h : Ev P (if b then x else y) st ex s) : Ev P (.cond (.tmp t) x y) st ex s := by
  refine fun E a w hs hr Q hQ => ?_
  have h1 := hr.rep t
  rw [hc] at h1
  exact wp_cond (t := b) h1.val_inv (h E a w hs hr Q hQ)

theorem Ev.condC {x y : Code} {st s : St} {ex : Ex} {b : Bool} (h : Ev P (if b then x else y) st ex s) : Ev P (.cond (.const (.bool b)) x y) st ex s :=
  fun E a w hs hr Q hQ => wp_cond (t := b) rfl (h E a w hs hr Q hQ)

theorem Ev.block_exit {n : Nat} {b : Code} {st s : St} (h : Ev P b st (.exit n) s) : Ev P (.block n b) st .normal s :=
  fun E a w hs hr Q hQ => wp_block (h E a w hs hr _ fun E1 a1 w1 t1 t2 t3 t4 t5 => by
    have := hQ E1 a1 w1 t1 t2 t3 t4 t5
    simpa [Ex.to, Exit.inBlock] using this)

theorem Ev.block {n : Nat} {b : Code} {st s : St} {ex : Ex} (h : Ev P b st ex s) (hne : ex ≠ .exit n) : Ev P (.block n b) st ex s :=
  fun E a w hs hr Q hQ => wp_block (h E a w hs hr _ fun E1 a1 w1 t1 t2 t3 t4 t5 => by
    have := hQ E1 a1 w1 t1 t2 t3 t4 t5
    cases ex with
    | normal => exact this
    | exit i =>
      have hi : i ≠ n := fun e => hne (by rw [e])
      simpa [Ex.to, Exit.inBlock, hi] using this
    | ret => exact this)

theorem runRegion_ok (hinl : InlOk P hs.inl) {r : Nat} {ops : Array Oper} {st s : St} {ex : Ex} {q : List Prop} (h : runRegion hs P r ops st = some (ex, s, q)) (hq : ∀ p ∈ q, p) : Ev P (.region r ops false) st ex s := by
  unfold runRegion at h
  split at h
  · rename_i s' q' h1
    simp only [Option.some.injEq, Prod.mk.injEq] at h
    obtain ⟨rfl, rfl, rfl⟩ := h
    exact fun E a w hs' hr Q hQ => wp_region_list (runOps_ok (n := ops.size) hinl ops.toList 0 _ _ _ E a w h1 hq (by simp) (Nat.le_refl _) (fun k _ _ => hs'.fresh _ (by omega)) (hs'.up (Nat.le_add_right _ _)) ⟨hr.size, hr.rep⟩ Q
      fun E' a' w' t1 t2 t3 t4 t5 => hQ E' a' w' t1 t2 t3 t4 (Nat.le_trans (Nat.le_add_right _ _) t5))
  · cases h

theorem runDraw_ok (hinl : InlOk P hs.inl) {r : Nat} {ops : Array Oper} {st s : St} {ex : Ex} {q : List Prop} (h : runDraw hs P r ops st = some (ex, s, q)) (hq : ∀ p ∈ q, p) : Ev P (.region r ops true) st ex s := by
  unfold runDraw at h
  split at h
  · rename_i rs s' q' h1
    split at h
    · rename_i hc
      simp only [Bool.and_eq_true] at hc
      simp only [Option.some.injEq, Prod.mk.injEq] at h
      obtain ⟨rfl, rfl, rfl⟩ := h
      have hR : ∀ k x, rs[k]? = some x → (fun i => rs.getD i ⟨none, .any, [], 0, false, [], []⟩) (0 + k) = x := fun k x hx => by
        simp [hx]
      obtain ⟨g1, g2, g3, g4, g5, g6⟩ := runRec_ok (R := fun i => rs.getD i ⟨none, .any, [], 0, false, [], []⟩) (tm0 := tmF st) (H0 := heapF st.hp) (nx0 := st.nx + ops.size) ops.toList 0 _ _ _ _ h1 hq (fun k o ho => by simpa using ho) hR rfl rfl rfl
      simp only [Array.length_toList, Nat.zero_add] at g1 g2 g3 g4 g5
      have hA := ancOk_of (show statOk ops = true by have := hc.2; unfold apartOk at this; simp only [Bool.and_eq_true] at this; exact this.1)
      have hP := pairsOk_of (R := fun i => rs.getD i ⟨none, .any, [], 0, false, [], []⟩) g1 (fun k x hx => by simpa using hR k x hx) (fun i hi => recStat_of (g2 i hi).1) hc.2
      intro E a w hs' hr Q hQ
      refine wp_region_any hc.1 ?_
      have hX : ∀ i, (Array.replicate ops.size false).getD i false = false := fun i => by
        by_cases hi : i < ops.size <;> simp [hi]
      have z1 : ∀ n, nxAt (fun i => rs.getD i ⟨none, .any, [], 0, false, [], []⟩) (fun i => (Array.replicate ops.size false).getD i false) (st.nx + ops.size) n = st.nx + ops.size := fun n => by
        rw [nxAt_skip (i := 0) n (Nat.zero_le _) fun j _ _ _ => hX j]; rfl
      have z2 : ∀ n, HAt (fun i => rs.getD i ⟨none, .any, [], 0, false, [], []⟩) (fun i => (Array.replicate ops.size false).getD i false) (heapF st.hp) n = heapF st.hp := fun n => funext fun id => by
        rw [HAt_skip (i := 0) n id (Nat.zero_le _) fun j _ _ _ => hX j]; rfl
      have z3 : ∀ n, tmAt (fun i => rs.getD i ⟨none, .any, [], 0, false, [], []⟩) (fun i => (Array.replicate ops.size false).getD i false) (tmF st) n = tmF st := fun n => funext fun t => by
        rw [tmAt_skip (i := 0) n t (Nat.zero_le _) fun j _ _ _ => hX j]; rfl
      have hsw := (hs'.heap (w' := { w with drawn := w.drawn + 1 }) rfl)
      have hxw := Ext.heap (w' := { w with drawn := w.drawn + 1 }) (N := fun id => st.nx ≤ id) hs' rfl rfl rfl rfl
      have hrw : ∀ t, Rep E { w with drawn := w.drawn + 1 } (tmF st t) (a.tmps.getD t undef) := fun t => Rep.same (w := w) (w' := { w with drawn := w.drawn + 1 }) (fun b _ => rfl) (hr.rep t)
      refine draw_any hinl (base := st.nx) (len := st.len) (tm0 := tmF st) (H0 := heapF st.hp) (nx0 := st.nx + ops.size) rfl (fun i hi => (g2 i hi).1) (fun i hi => (g2 i hi).2) hA hP ops.size _ E a _ (by simp) (fun i o _ h => by rw [hX] at h; cases h)
        (by exact Nat.le_trans List.countP_le_length (by simp)) (by rw [z1, z2]; exact hsw.up (Nat.le_add_right _ _)) (by rw [z3]; exact ⟨hrw⟩) hr.size (fun k _ _ => hs'.fresh _ (by omega)) (by rw [z1]; omega) Q fun E' a' w' t1 t2 t3 t4 t5 t6 => ?_
      rw [z2] at t4
      rw [z1] at t6
      rw [← g4] at t1 t4
      rw [← g5] at t1 t6
      rw [← g3] at t2
      refine hQ E' a' w' t1 ⟨by rw [t3, g6], t2.rep⟩ (hxw.trans t4 (fun _ h => h) fun _ h => h) t5 (by omega)
    · cases h
  · cases h

/-- round after round -/
theorem runLoop_ok {f : St → OutC} {c : Code} (hf : ∀ st ex s q, f st = some (ex, s, q) → (∀ p ∈ q, p) → Ev P c st ex s) :
    ∀ (n : Nat) (st s : St) (ex : Ex) (q : List Prop), runLoop f n st = some (ex, s, q) → (∀ p ∈ q, p) → ∀ (E : Env) (a : Act) (w : World), Sat E st.nx (heapF st.hp) w → RepS E w st a → ∀ (Q : Exit → Act → World → Prop),
    (∀ E' a' w', Sat E' s.nx (heapF s.hp) w' → RepS E' w' s a' → Ext E (heapF st.hp) w (fun id => st.nx ≤ id) E' (heapF s.hp) w' → a'.defers = a.defers → st.nx ≤ s.nx → Q ex.to a' w') → Code.rounds P c Q n a w
  | 0, _, _, _, _, h, _ => by simp [runLoop] at h
  | n + 1, st, s, ex, q, h, hq => by
    intro E a w hs hr Q hQ
    rw [rounds_succ]
    simp only [runLoop] at h
    split at h
    · rename_i s1 q1 h1
      split at h
      · rename_i e2 s2 q2 h2
        simp only [Option.some.injEq, Prod.mk.injEq] at h
        obtain ⟨rfl, rfl, rfl⟩ := h
        refine hf _ _ _ _ h1 (fun p hp => hq p (List.mem_append_left _ hp)) E a w hs hr _ fun E1 a1 w1 t1 t2 t3 t4 t5 => ?_
        exact runLoop_ok hf n _ _ _ _ h2 (fun p hp => hq p (List.mem_append_right _ hp)) E1 a1 w1 t1 t2 Q fun E2 a2 w2 u1 u2 u3 u4 u5 => hQ E2 a2 w2 u1 u2 (ext_up t3 u3 t5) (u4.trans t4) (Nat.le_trans t5 u5)
      · cases h
    · rename_i hne
      refine hf _ _ _ _ h hq E a w hs hr _ fun E1 a1 w1 t1 t2 t3 t4 t5 => ?_
      have := hQ E1 a1 w1 t1 t2 t3 t4 t5
      cases ex with
      | normal => exact absurd h (hne _ _)
      | exit i => exact this
      | ret => exact this

theorem Ev.less {c : Code} {st s s' : St} {ex : Ex} (h : Ev P c st ex s) (l : Less s' s) : Ev P c st ex s' := by
  refine fun E a w hs hr Q hQ => h E a w hs hr Q fun E' a' w' t1 t2 t3 t4 t5 => ?_
  refine hQ E' a' w' ((t1.sub l.hp).up l.nx) ⟨t2.size.trans l.len.symm, fun t => ?_⟩ ⟨t3.f, t3.nw, t3.I, t3.I', t3.fr, fun b hb => t3.hb b ?_, t3.size, t3.os, t3.tape, t3.output⟩ t4 (Nat.le_trans t5 l.nx)
  · rcases l.tm t with h | h
    · rw [h]; exact .any _
    · rw [h]; exact t2.rep t
  · obtain ⟨id, x, c', sz, h1, h2⟩ := hb
    exact ⟨id, x, c', sz, l.hp id x h1, h2⟩

/-- so many rounds, and this is where they end -/
def EvR (P : Program) (c : Code) (n : Nat) (st : St) (ex : Ex) (s : St) : Prop :=
  ∀ (E : Env) (a : Act) (w : World), Sat E st.nx (heapF st.hp) w → RepS E w st a → ∀ (Q : Exit → Act → World → Prop),
    (∀ E' a' w', Sat E' s.nx (heapF s.hp) w' → RepS E' w' s a' → Ext E (heapF st.hp) w (fun id => st.nx ≤ id) E' (heapF s.hp) w' → a'.defers = a.defers → st.nx ≤ s.nx → Q ex.to a' w') → Code.rounds P c Q n a w

theorem EvR.step {c : Code} {n : Nat} {st s s' : St} {ex : Ex} (h1 : Ev P c st .normal s) (h2 : EvR P c n s ex s') : EvR P c (n + 1) st ex s' := by
  intro E a w hs hr Q hQ
  rw [rounds_succ]
  refine h1 E a w hs hr _ fun E1 a1 w1 t1 t2 t3 t4 t5 => ?_
  exact h2 E1 a1 w1 t1 t2 Q fun E2 a2 w2 u1 u2 u3 u4 u5 => hQ E2 a2 w2 u1 u2 (ext_up t3 u3 t5) (u4.trans t4) (Nat.le_trans t5 u5)

theorem EvR.last {c : Code} {st s : St} {e : Nat} (h : Ev P c st (.exit e) s) : EvR P c 1 st (.exit e) s := by
  intro E a w hs hr Q hQ
  rw [rounds_succ]
  exact h E a w hs hr _ fun E1 a1 w1 t1 t2 t3 t4 t5 => hQ E1 a1 w1 t1 t2 t3 t4 t5

theorem runFam_ok {f : Bool → St → OutC} {c : Code} {F : LoopFam} (hf : ∀ bit st ex s q, f bit st = some (ex, s, q) → (∀ p ∈ q, p) → Ev P c st ex s) :
    ∀ (n : Nat) (st : St) {e : Nat} {s : St} {l : List (List Prop × List Prop)}, runFam f F n st = some (e, s, l) → (∃ X : St, s = X.trim F.ts' F.ids' F.nx) ∧ (famP l → ∃ k, EvR P c k st (.exit e) s)
  | 0, st, e, s, l, h => by
    simp only [runFam] at h
    split at h
    · rename_i e1 s1 q1 h1
      simp only [Option.some.injEq, Prod.mk.injEq] at h
      obtain ⟨rfl, rfl, rfl⟩ := h
      refine ⟨⟨_, rfl⟩, fun hp => ?_⟩
      rcases hp with hp | ⟨hp, _⟩
      · exact ⟨1, EvR.last ((hf _ _ _ _ _ h1 hp).less (Less.trim _ _ _ _))⟩
      · exact (hp False (List.mem_singleton.2 rfl)).elim
    · cases h
  | n + 1, st, e, s, l, h => by
    simp only [runFam] at h
    split at h
    · rename_i e1 s1 q1 h1
      split at h
      · rename_i s2 q2 h2
        split at h
        · rename_i e3 s3 l3 h3
          split at h
          · rename_i hc
            simp only [Option.some.injEq, Prod.mk.injEq] at h
            obtain ⟨rfl, rfl, rfl⟩ := h
            obtain ⟨⟨X, hX⟩, ih⟩ := runFam_ok hf n _ h3
            refine ⟨⟨X, hX⟩, fun hp => ?_⟩
            rcases hp with hp | ⟨hp, hl⟩
            · refine ⟨1, EvR.last ((hf _ _ _ _ _ h1 hp).less ?_)⟩
              have := hc.2
              rw [hX] at this ⊢
              exact saysAt_ok this
            · obtain ⟨k, hk⟩ := ih hl
              rw [hc.1] at hk
              exact ⟨k + 1, EvR.step ((hf _ _ _ _ _ h2 hp).less (Less.trim _ _ _ _)) hk⟩
          · cases h
        · cases h
      · cases h
    · cases h

theorem run_all : ∀ (c : Code) (hs : Hints), InlOk P hs.inl → ∀ (st s : St) (ex : Ex) (q : List Prop), run hs P c st = some (ex, s, q) → (∀ p ∈ q, p) → Ev P c st ex s := by
  intro c
  induction c with
  | skip =>
    intro hs hinl st s ex q h _
    simp only [run, Option.some.injEq, Prod.mk.injEq] at h
    obtain ⟨rfl, rfl, _⟩ := h
    exact Ev.refl fun a w Q hQ => wp_skip hQ
  | label l =>
    intro hs hinl st s ex q h _
    simp only [run, Option.some.injEq, Prod.mk.injEq] at h
    obtain ⟨rfl, rfl, _⟩ := h
    exact Ev.refl fun a w Q hQ => wp_label hQ
  | exit n =>
    intro hs hinl st s ex q h _
    simp only [run, Option.some.injEq, Prod.mk.injEq] at h
    obtain ⟨rfl, rfl, _⟩ := h
    exact Ev.refl fun a w Q hQ => wp_exit hQ
  | ret =>
    intro hs hinl st s ex q h _
    simp only [run, Option.some.injEq, Prod.mk.injEq] at h
    obtain ⟨rfl, rfl, _⟩ := h
    exact Ev.refl fun a w Q hQ => wp_ret hQ
  | region r ops draw =>
    intro hs hinl st s ex q h hq
    cases draw with
    | false => exact runRegion_ok hinl h hq
    | true => exact runDraw_ok hinl h hq
  | seq x y ihx ihy =>
    intro hs hinl st s ex q h hq
    simp only [run] at h
    split at h
    · rename_i s1 q1 h1
      split at h
      · rename_i e2 s2 q2 h2
        simp only [Option.some.injEq, Prod.mk.injEq] at h
        obtain ⟨rfl, rfl, rfl⟩ := h
        exact (ihx hs hinl _ _ _ _ h1 fun p hp => hq p (List.mem_append_left _ hp)).seq (ihy hs hinl _ _ _ _ h2 fun p hp => hq p (List.mem_append_right _ hp))
      · cases h
    · rename_i hne
      refine (ihx hs hinl _ _ _ _ h hq).seq_out fun e => ?_
      subst e
      exact hne _ _ h
  | cond c x y ihx ihy =>
    intro hs hinl st s ex q h hq
    cases c with
    | tmp t =>
      simp only [run] at h
      split at h
      · rename_i b hb
        split at h
        · rename_i bit _
          split at h
          · rename_i e1 s1 q1 h1
            simp only [Option.some.injEq, Prod.mk.injEq] at h
            obtain ⟨rfl, rfl, rfl⟩ := h
            have : b = bit := hq _ List.mem_cons_self
            subst this
            refine Ev.cond hb ?_
            cases b with
            | true => exact ihx hs hinl _ _ _ _ h1 fun p hp => hq p (List.mem_cons_of_mem _ hp)
            | false => exact ihy hs hinl _ _ _ _ h1 fun p hp => hq p (List.mem_cons_of_mem _ hp)
          · cases h
        · refine Ev.cond hb ?_
          cases b with
          | true => exact ihx hs hinl _ _ _ _ h hq
          | false => exact ihy hs hinl _ _ _ _ h hq
      · cases h
    | const v =>
      cases v with
      | bool b =>
        simp only [run] at h
        refine Ev.condC ?_
        cases b with
        | true => exact ihx hs hinl _ _ _ _ h hq
        | false => exact ihy hs hinl _ _ _ _ h hq
      | _ => simp [run] at h
    | _ => simp [run] at h
  | block n b ih =>
    intro hs hinl st s ex q h hq
    simp only [run] at h
    split at h
    · rename_i i s1 q1 h1
      split at h
      · rename_i hi
        subst hi
        simp only [Option.some.injEq, Prod.mk.injEq] at h
        obtain ⟨rfl, rfl, rfl⟩ := h
        exact (ih hs hinl _ _ _ _ h1 hq).block_exit
      · rename_i hi
        simp only [Option.some.injEq, Prod.mk.injEq] at h
        obtain ⟨rfl, rfl, rfl⟩ := h
        exact (ih hs hinl _ _ _ _ h1 hq).block fun e => hi (by injection e)
    · rename_i hne
      refine (ih hs hinl _ _ _ _ h hq).block fun e => ?_
      subst e
      exact hne _ _ _ h
  | loop b ih =>
    intro hs hinl st s ex q h hq
    simp only [run] at h
    split at h
    · rename_i F _
      split at h
      · rename_i e1 s1 l1 h1
        simp only [Option.some.injEq, Prod.mk.injEq] at h
        obtain ⟨rfl, rfl, rfl⟩ := h
        obtain ⟨k, hk⟩ := (runFam_ok (fun bit st ex s q h hq => ih (hs.at F.t bit) hinl st s ex q h hq) F.n st h1).2 (hq _ (List.mem_singleton.2 rfl))
        exact fun E a w hs' hr Q hQ => wp_loop_rounds _ (hk E a w hs' hr Q hQ)
      · cases h
    split at h
    · simp only [Option.some.injEq, Prod.mk.injEq] at h
      obtain ⟨rfl, rfl, rfl⟩ := h
      exact hq _ (List.mem_singleton.2 rfl)
    · exact fun E a w hs' hr Q hQ => wp_loop_rounds _ (runLoop_ok (fun st ex s q h hq => ih hs hinl st s ex q h hq) _ _ _ _ _ h hq E a w hs' hr Q hQ)
  | _ => intro hs hinl st s ex q h _; simp [run] at h

theorem run_ok (hinl : InlOk P hs.inl) : ∀ (c : Code) (st s : St) (ex : Ex) (q : List Prop), run hs P c st = some (ex, s, q) → (∀ p ∈ q, p) → Ev P c st ex s := fun c => run_all c hs hinl
end
end Go.Proofs.YtfofhpkafhpicaaGreatDoor

/- An engine for walks, thirteenth part: functions. -/
namespace Go.Proofs.YtfofhpkafhpicaaGreatDoor
open Go.RowKit

/-- what a result is -/
def resA (P : Program) (tm : Nat → AV) (H : Heap) : ResultVar → Option AV
  | .tmp t => some (tm t)
  | .cell p ty =>
    match tm p with
    | .ptr id i j =>
      match H id with
      | some ob =>
        match ob.body with
        | .rows l =>
          match l[i]? with
          | some e => if e.length ≤ ob.sz then partA P ty e j else none
          | none => none
        | _ => none
      | none => none
    | _ => none

def resL (P : Program) (tm : Nat → AV) (H : Heap) : List ResultVar → Option AV
  | [] => some (.tup [])
  | [r] => resA P tm H r
  | [r, r'] => (resA P tm H r).bind fun v => (resA P tm H r').map fun v' => .tup [v, v']
  | [r, r', r''] => (resA P tm H r).bind fun v => (resA P tm H r').bind fun v' => (resA P tm H r'').map fun v'' => .tup [v, v', v'']
  | [r, r', r'', r3] => (resA P tm H r).bind fun v => (resA P tm H r').bind fun v' => (resA P tm H r'').bind fun v'' => (resA P tm H r3).map fun v3 => .tup [v, v', v'', v3]
  | _ => none

def treeA : List AV → Nat → Tr AV → Tr AV
  | [], _, t => t
  | x :: l, i, t => treeA l (i + 1) (t.put i (some x))
def treeH : List (Nat × AObj) → Tr AObj
  | [] => .leaf
  | (k, x) :: l => (treeH l).put k (some x)

theorem treeH_ok : ∀ l, heapF (treeH l) = hp l
  | [] => by funext id; simp [treeH, heapF, hp, Tr.get_leaf]
  | (k, x) :: l => by
    funext id
    have ih := congrFun (treeH_ok l) id
    simp only [heapF] at ih
    simp only [treeH, heapF, hp, Tr.get_put', ih]

theorem treeA_ok : ∀ (l : List AV) (i : Nat) (t : Tr AV) (k : Nat), (treeA l i t).get k = if i ≤ k ∧ k < i + l.length then l[k - i]? else t.get k
  | [], i, t, k => by
    rw [treeA, if_neg]
    intro h
    have h2 := h.2
    simp only [List.length_nil] at h2
    omega
  | x :: l, i, t, k => by
    rw [treeA, treeA_ok l (i + 1), Tr.get_put']
    by_cases e : k = i
    · subst e
      rw [if_neg (by omega), if_pos rfl, if_pos ⟨Nat.le_refl _, by simp⟩]
      simp
    · by_cases h : i + 1 ≤ k ∧ k < i + 1 + l.length
      · rw [if_pos h, if_pos ⟨by omega, by simp; omega⟩, show k - i = (k - (i + 1)) + 1 by omega, List.getElem?_cons_succ]
      · rw [if_neg h, if_neg e, if_neg (by simp; omega)]

/-- a function's text, reckoned -/
def runFn (hs : Hints) (P : Program) (g : FuncId) (args : List AV) (H : List (Nat × AObj)) (nx : Nat) : Option (AV × St × List Prop) :=
  match P.funcs[g]? with
  | some fn =>
    match fn.body with
    | some c =>
      match run hs P c ⟨args.length + (fn.ntmps - args.length), treeA args 0 .leaf, treeH H, nx⟩ with
      | some (.exit _, _, _) => none
      | some (_, s, q) => (resL P (tmF s) (heapF s.hp) fn.results.toList).map fun v => (v, s, q)
      | none => none
    | none => none
  | none => none

section
variable {P : Program} {hs : Hints} {E : Env} {w : World}

theorem resA_run {st : St} {a : Act} {r : ResultVar} {v : AV} (s : Sat E st.nx (heapF st.hp) w) (hr : RepS E w st a) (h : resA P (tmF st) (heapF st.hp) r = some v) :
    ∃ u, (match r with | .tmp t => pure (a.tmps.getD t undef) | .cell p t => do loadVar t (← asAddr (a.tmps.getD p undef)) : Sem Value).run P w = .ok u w ∧ Rep E w v u := by
  cases r with
  | tmp t =>
    simp only [resA, Option.some.injEq] at h
    subst h
    exact ⟨_, rfl, hr.rep t⟩
  | cell p ty =>
    simp only [resA] at h
    split at h
    · rename_i id i j hp'
      split at h
      · rename_i ob hid
        split at h
        · rename_i l hb
          split at h
          · rename_i e he
            split at h
            · rename_i hel
              have rp := hr.rep p
              rw [hp'] at rp
              generalize hu : a.tmps.getD p undef = u at rp
              cases rp with
              | ptr hE =>
                rename_i b c sz
                have ro := s.at_ hid hE
                have hsz : sz = ob.sz := ro.1
                obtain ⟨u, h1, h2⟩ := load_part (w := w) (E := E) (g := b) (o' := i * sz) h (fun k y hy => by
                  have hk : k < e.length := (List.getElem?_eq_some_iff.1 hy).1
                  obtain ⟨a', v', e1, e2, e3⟩ := ro.read (i := i) (j := k) (by rw [hb]; exact (List.getElem?_eq_some_iff.1 he).1) (by omega)
                  rw [hb] at e1
                  simp only [Body.cell?, he, Option.bind_some] at e1
                  rw [hy] at e1
                  injection e1 with e1
                  subst e1
                  exact ⟨v', e2, e3⟩)
                exact ⟨u, by simp only [hu, asAddr, Sem.run_bind, Sem.run_pure, Result.andThen_ok]; exact h1, h2⟩
            · cases h
          · cases h
        · cases h
      · cases h
    · cases h

theorem resL_run {st : St} {a : Act} {fn : Func} {v : AV} (s : Sat E st.nx (heapF st.hp) w) (hr : RepS E w st a) (h : resL P (tmF st) (heapF st.hp) fn.results.toList = some v) :
    ∃ u, (results fn a.tmps).run P w = .ok u w ∧ Rep E w v u := by
  generalize hl : fn.results.toList = rs at h
  have hrs : fn.results = rs.toArray := by rw [← hl]
  unfold resL at h
  split at h
  · simp only [Option.some.injEq] at h
    subst h
    exact ⟨_, by simp [results, hrs]; rfl, .tup rfl fun k a v h1 _ => by simp at h1⟩
  · rename_i r
    obtain ⟨u, h1, h2⟩ := resA_run s hr h
    refine ⟨u, ?_, h2⟩
    unfold results
    rw [hrs]
    cases r <;> (simp only [List.mapM_toArray, List.mapM_cons, List.mapM_nil, Sem.run_bind, Sem.run_map, Sem.run_pure, Result.andThen_ok] at h1 ⊢) <;> (try (injection h1 with h1 _; subst h1)) <;> ((try simp only [h1, Result.andThen_ok]); (first | rfl | simp))
  · rename_i r r'
    obtain ⟨x, g1, h⟩ := Option.bind_eq_some_iff.1 h
    obtain ⟨x', g2, rfl⟩ := Option.map_eq_some_iff.1 h
    obtain ⟨u, h1, h2⟩ := resA_run s hr g1
    obtain ⟨u', h1', h2'⟩ := resA_run s hr g2
    refine ⟨.tuple #[u, u'], ?_, .tup rfl fun k a v e1 e2 => ?_⟩
    · unfold results
      rw [hrs]
      cases r <;> cases r' <;> (simp only [List.mapM_toArray, List.mapM_cons, List.mapM_nil, Sem.run_bind, Sem.run_map, Sem.run_pure, Result.andThen_ok] at h1 h1' ⊢) <;> (try (injection h1 with h1 _; subst h1)) <;> (try (injection h1' with h1' _; subst h1')) <;> ((try simp only [h1, Result.andThen_ok]); (try simp only [h1', Result.andThen_ok]); (first | rfl | simp))
    · match k with
      | 0 => simp at e1 e2; subst e1 e2; exact h2
      | 1 => simp at e1 e2; subst e1 e2; exact h2'
      | k + 2 => simp at e1
  · rename_i r r' r''
    obtain ⟨x, g1, h⟩ := Option.bind_eq_some_iff.1 h
    obtain ⟨x', g2, h⟩ := Option.bind_eq_some_iff.1 h
    obtain ⟨x'', g3, rfl⟩ := Option.map_eq_some_iff.1 h
    obtain ⟨u, h1, h2⟩ := resA_run s hr g1
    obtain ⟨u', h1', h2'⟩ := resA_run s hr g2
    obtain ⟨u'', h1'', h2''⟩ := resA_run s hr g3
    refine ⟨.tuple #[u, u', u''], ?_, .tup rfl fun k a v e1 e2 => ?_⟩
    · unfold results
      rw [hrs]
      cases r <;> cases r' <;> cases r'' <;> (simp only [List.mapM_toArray, List.mapM_cons, List.mapM_nil, Sem.run_bind, Sem.run_map, Sem.run_pure, Result.andThen_ok] at h1 h1' h1'' ⊢) <;> (try (injection h1 with h1 _; subst h1)) <;> (try (injection h1' with h1' _; subst h1')) <;> (try (injection h1'' with h1'' _; subst h1'')) <;> ((try simp only [h1, Result.andThen_ok]); (try simp only [h1', Result.andThen_ok]); (try simp only [h1'', Result.andThen_ok]); (first | rfl | simp))
    · match k with
      | 0 => simp at e1 e2; subst e1 e2; exact h2
      | 1 => simp at e1 e2; subst e1 e2; exact h2'
      | 2 => simp at e1 e2; subst e1 e2; exact h2''
      | k + 3 => simp at e1
  · rename_i r r' r'' r3
    obtain ⟨x, g1, h⟩ := Option.bind_eq_some_iff.1 h
    obtain ⟨x', g2, h⟩ := Option.bind_eq_some_iff.1 h
    obtain ⟨x'', g3, h⟩ := Option.bind_eq_some_iff.1 h
    obtain ⟨x3, g4, rfl⟩ := Option.map_eq_some_iff.1 h
    obtain ⟨u, h1, h2⟩ := resA_run s hr g1
    obtain ⟨u', h1', h2'⟩ := resA_run s hr g2
    obtain ⟨u'', h1'', h2''⟩ := resA_run s hr g3
    obtain ⟨u3, h13, h23⟩ := resA_run s hr g4
    refine ⟨.tuple #[u, u', u'', u3], ?_, .tup rfl fun k a v e1 e2 => ?_⟩
    · unfold results
      rw [hrs]
      cases r <;> cases r' <;> cases r'' <;> cases r3 <;> (simp only [List.mapM_toArray, List.mapM_cons, List.mapM_nil, Sem.run_bind, Sem.run_map, Sem.run_pure, Result.andThen_ok] at h1 h1' h1'' h13 ⊢) <;> (try (injection h1 with h1 _; subst h1)) <;> (try (injection h1' with h1' _; subst h1')) <;> (try (injection h1'' with h1'' _; subst h1'')) <;> (try (injection h13 with h13 _; subst h13)) <;> ((try simp only [h1, Result.andThen_ok]); (try simp only [h1', Result.andThen_ok]); (try simp only [h1'', Result.andThen_ok]); (try simp only [h13, Result.andThen_ok]); (first | rfl | simp))
    · match k with
      | 0 => simp at e1 e2; subst e1 e2; exact h2
      | 1 => simp at e1 e2; subst e1 e2; exact h2'
      | 2 => simp at e1 e2; subst e1 e2; exact h2''
      | 3 => simp at e1 e2; subst e1 e2; exact h23
      | k + 4 => simp at e1
  · cases h

theorem runFn_ok (hinl : InlOk P hs.inl) {g : FuncId} {args : List AV} {H H' : List (Nat × AObj)} {nx : Nat} {v : AV} {s : St} {q : List Prop} (h : runFn hs P g args H nx = some (v, s, q)) (hq : ∀ p ∈ q, p)
    (hsub : ∀ id x, hp H' id = some x → heapF s.hp id = some x) : ACall P g args H nx v H' s.nx := by
  unfold runFn at h
  split at h
  · rename_i fn hfn
    split at h
    · rename_i c hb
      have key : ∀ ex, run hs P c ⟨args.length + (fn.ntmps - args.length), treeA args 0 .leaf, treeH H, nx⟩ = some (ex, s, q) → ex = .normal ∨ ex = .ret → resL P (tmF s) (heapF s.hp) fn.results.toList = some v → ACall P g args H nx v H' s.nx := by
        intro ex hrun hex hres E w vs hs' hreps
        refine calls_of_wp hfn hb ?_
        refine run_ok hinl c _ _ _ _ hrun hq E _ w (by rw [treeH_ok]; exact hs') ?_ _ fun E' a' w' t1 t2 t3 t4 t5 => ?_
        · refine ⟨by simp [hreps.1], fun t => ?_⟩
          show Rep E w (((treeA args 0 .leaf).get t).getD .any) ((vs ++ Array.replicate (fn.ntmps - vs.size) undef).getD t undef)
          rw [treeA_ok]
          by_cases ht : t < args.length
          · have h1 : args[t]? = some args[t] := List.getElem?_eq_getElem ht
            have h2 : vs[t]? = some (vs[t]'(by rw [hreps.1]; exact ht)) := by simp [hreps.1, ht]
            have h3 := hreps.2 _ _ _ h1 h2
            have e2 : (vs ++ Array.replicate (fn.ntmps - vs.size) undef).getD t undef = vs[t]'(by rw [hreps.1]; exact ht) := by
              rw [Array.getD_eq_getD_getElem?, Array.getElem?_append_left (by rw [hreps.1]; exact ht), h2]; rfl
            rw [if_pos ⟨Nat.zero_le _, by omega⟩, Nat.sub_zero, h1, e2]
            exact h3
          · rw [if_neg (by omega), Tr.get_leaf]
            exact .any _
        · obtain ⟨u, h1, h2⟩ := resL_run t1 t2 hres
          rw [treeH_ok] at t3
          have hp' : (results fn a'.tmps).run P w' = .ok u w' := h1
          have x3 : Ext E (hp H) w (fun id => nx ≤ id) E' (hp H') w' := ⟨t3.f, t3.nw, t3.I, t3.I', t3.fr, fun b hb => t3.hb b (by
            obtain ⟨id, x, c', sz, h1, h2⟩ := hb
            exact ⟨id, x, c', sz, hsub id x h1, h2⟩), t3.size, t3.os, t3.tape, t3.output⟩
          rcases hex with rfl | rfl <;> exact ⟨t4, u, hp', E', u, rfl, t1.sub hsub, h2, x3⟩
      split at h
      · cases h
      · rename_i ex s1 q1 hne hrun
        simp only [Option.map_eq_some_iff, Prod.mk.injEq] at h
        obtain ⟨v', hres, rfl, rfl, rfl⟩ := h
        refine key ex hrun ?_ hres
        cases ex with
        | normal => exact .inl rfl
        | ret => exact .inr rfl
        | exit n => exact (hne n rfl).elim
      · cases h
    · cases h
  · cases h

theorem inl_none : InlOk P (fun _ _ _ _ => none) := fun _ _ _ _ _ _ _ _ h => by cases h

theorem ACall.sub {g : FuncId} {args : List AV} {H H1 H2 : List (Nat × AObj)} {nx n1 : Nat} {v : AV} (h : ACall P g args H nx v H1 n1) (hsub : ∀ id x, hp H2 id = some x → hp H1 id = some x) : ACall P g args H nx v H2 n1 := by
  intro E w vs hs' hreps
  refine Calls.mono (h E w vs hs' hreps) fun e w' hh => ?_
  obtain ⟨E', u, rfl, t1, t2, t3⟩ := hh
  refine ⟨E', u, rfl, t1.sub hsub, t2, t3.f, t3.nw, t3.I, t3.I', t3.fr, fun b hb => t3.hb b ?_, t3.size, t3.os, t3.tape, t3.output⟩
  obtain ⟨id, x, c', sz, h1, h2⟩ := hb
  exact ⟨id, x, c', sz, hsub id x h1, h2⟩

/-- what a call leaves behind that is still of use -/
def keepL (v : AV) (H : List (Nat × AObj)) (K : Heap) : List (Nat × AObj) := pickO K (reach K 1000 (idsOf 4 v ++ H.map (·.1)) [])

/-- the functions that are called are reckoned too, so deep; those that 'known' knows are not -/
def inlK (known : Inl) (hs : Hints) (P : Program) : Nat → Inl
  | 0 => known
  | n + 1 => fun g xs L nx =>
    match known g xs L nx with
    | some r => some r
    | none =>
      match runFn { hs with inl := inlK known hs P n } P g xs L nx with
      | some (v, s, q) => if hs.cl then (if nx ≤ s.nx then some (v, keepL v L (heapF s.hp), s.nx, q) else none) else some (v, keepL v L (heapF s.hp), s.nx, (nx ≤ s.nx) :: q)
      | none => none

theorem inlK_ok {known : Inl} (hk : InlOk P known) (hs : Hints) : ∀ n, InlOk P (inlK known hs P n)
  | 0 => hk
  | n + 1 => fun g xs L nx v L' nx' q h hq => by
    simp only [inlK] at h
    split at h
    · rename_i r h0
      injection h with h
      subst h
      exact hk _ _ _ _ _ _ _ _ h0 hq
    · split at h
      · rename_i v1 s q1 h1
        split at h
        · split at h
          · rename_i hle
            simp only [Option.some.injEq, Prod.mk.injEq] at h
            obtain ⟨rfl, rfl, rfl, rfl⟩ := h
            exact ⟨runFn_ok (inlK_ok hk hs n) h1 hq (pickO_sub _), hle⟩
          · cases h
        · simp only [Option.some.injEq, Prod.mk.injEq] at h
          obtain ⟨rfl, rfl, rfl, rfl⟩ := h
          exact ⟨runFn_ok (inlK_ok hk hs n) h1 (fun p hp => hq p (List.mem_cons_of_mem _ hp)) (pickO_sub _), hq _ List.mem_cons_self⟩
      · cases h

def noneKnown : Inl := fun _ _ _ _ => none

/-- the result seen otherwise, and less said of the memory -/
theorem ACall.as {g : FuncId} {args : List AV} {H H1 H2 : List (Nat × AObj)} {nx n1 n2 : Nat} {v v' : AV} {c : Co2} {B : List Nat} {obs : List Prop} (h : ACall P g args H nx v H1 n1) (hc : co2 (hp H1) B v c = some (v', obs)) (hobs : ∀ p ∈ obs, p)
    (hB : ∀ id ∈ B, ∃ x, hp H1 id = some x) (hsub : ∀ id x, hp H2 id = some x → id ∉ B ∧ hp H1 id = some x) (hn : n1 ≤ n2) : ACall P g args H nx v' H2 n2 := by
  intro E w vs hs' hreps
  refine Calls.mono (h E w vs hs' hreps) fun e w' hh => ?_
  obtain ⟨E', u, rfl, t1, t2, t3⟩ := hh
  obtain ⟨f1, f2⟩ := sat_frz (N := fun id => nx ≤ id) t1 hB
  have f3 := (f1.sub (K := hp H2) fun id x hx => dropH_some.2 (hsub id x hx)).up hn
  refine ⟨E'.frz B, u, rfl, f3, co2_ok t1 hc hobs t2, ?_⟩
  have x2 := t3.trans f2 (fun _ h => h) (fun _ h => h) (M := fun id => nx ≤ id)
  refine ⟨x2.f, x2.nw, x2.I, x2.I', x2.fr, fun b hb => x2.hb b ?_, x2.size, x2.os, x2.tape, x2.output⟩
  obtain ⟨id, x, c', sz, h1, h2⟩ := hb
  exact ⟨id, x, c', sz, dropH_some.2 (hsub id x h1), h2⟩
end
end Go.Proofs.YtfofhpkafhpicaaGreatDoor

/- An engine for walks: a closed function that comes to true. -/
namespace Go.Proofs.YtfofhpkafhpicaaGreatDoor
open Go.RowKit

theorem noneKnown_ok {P : Program} : InlOk P noneKnown := fun _ _ _ _ _ _ _ _ h => by cases h

/-- a closed function, reckoned: does it come to true? -/
def comesTrue (known : Inl) (P : Program) (fuel deep : Nat) (g : FuncId) : Bool :=
  match inlK known { cl := true, fuel := fuel } P deep g [] [] 0 with
  | some (.val (.bool true), _, _, []) => true
  | _ => false

theorem closed_true {P : Program} {known : Inl} (hk : InlOk P known) {fuel deep : Nat} {g : FuncId} (h : comesTrue known P fuel deep g = true) (w : World) :
    Calls P g #[] w fun e w' => e = .returned (.bool true) ∧ Below w.heap.size w w' := by
  unfold comesTrue at h
  split at h
  · rename_i L nx hi
    obtain ⟨hc, _⟩ := inlK_ok hk _ deep g [] [] 0 _ L nx [] hi (fun p hp => by cases hp)
    refine Calls.mono (hc ⟨fun _ => none, fun _ => False⟩ w #[] ⟨fun _ _ h => by simp [hp] at h, fun _ _ _ _ _ _ _ _ _ h => by simp [hp] at h, fun _ _ => rfl, fun _ h => h.elim⟩ ⟨rfl, fun k a v h => by simp at h⟩) fun e w' hh => ?_
    obtain ⟨E', u, rfl, _, t2, t3⟩ := hh
    rw [t2.val_inv]
    exact ⟨rfl, t3.os, t3.tape, t3.output, t3.size, fun b hb => t3.fr b hb fun ⟨id, x, c, z, h1, _⟩ => by simp [hp] at h1⟩
  · cases h
end Go.Proofs.YtfofhpkafhpicaaGreatDoor
