/- An engine for walks: functions with loops that the user shows, round by round; objects of the function's own may be numbered anew at each round. -/
import Derived.Test.YtfofhpkafhpicaaGreatDoorMez
namespace Go.Proofs.YtfofhpkafhpicaaGreatDoor
open Go.RowKit

/-- as Ev, but seen from the function's beginning, where the numbers from n0 on were free -/
def EvX (P : Program) (n0 : Nat) (c : Code) (st : St) (ex : Ex) (st' : St) : Prop :=
  ∀ (E0 : Env) (H0 : Heap) (w0 : World), Sat E0 n0 H0 w0 → ∀ (E : Env) (a : Act) (w : World), Ext E0 H0 w0 (fun id => n0 ≤ id) E (heapF st.hp) w → Sat E st.nx (heapF st.hp) w → RepS E w st a → n0 ≤ st.nx →
    ∀ (Q : Exit → Act → World → Prop), (∀ E' a' w', Ext E0 H0 w0 (fun id => n0 ≤ id) E' (heapF st'.hp) w' → Sat E' st'.nx (heapF st'.hp) w' → RepS E' w' st' a' → a'.defers = a.defers → n0 ≤ st'.nx → Q ex.to a' w') → c.wp P Q a w

section
variable {P : Program} {n0 : Nat}

theorem Ev.toX {c : Code} {st s : St} {ex : Ex} (h : Ev P c st ex s) : EvX P n0 c st ex s :=
  fun _ _ _ _ E a w x hs hr hn Q hQ => h E a w hs hr Q fun E' a' w' t1 t2 t3 t4 t5 => hQ E' a' w' (x.trans t3 (fun _ h => h) fun _ h' => Nat.le_trans hn h') t1 t2 t4 (Nat.le_trans hn t5)

theorem EvX.seq {x y : Code} {st s s' : St} {ex : Ex} (h1 : EvX P n0 x st .normal s) (h2 : EvX P n0 y s ex s') : EvX P n0 (.seq x y) st ex s' :=
  fun E0 H0 w0 s0 E a w x hs hr hn Q hQ => wp_seq (h1 E0 H0 w0 s0 E a w x hs hr hn _ fun E1 a1 w1 t0 t1 t2 t3 t4 => h2 E0 H0 w0 s0 E1 a1 w1 t0 t1 t2 t4 Q fun E2 a2 w2 u0 u1 u2 u3 u4 => hQ E2 a2 w2 u0 u1 u2 (u3.trans t3) u4)

theorem EvX.seq_out {x y : Code} {st s : St} {ex : Ex} (h1 : EvX P n0 x st ex s) (hne : ex ≠ .normal) : EvX P n0 (.seq x y) st ex s :=
  fun E0 H0 w0 s0 E a w x hs hr hn Q hQ => wp_seq (h1 E0 H0 w0 s0 E a w x hs hr hn _ fun E1 a1 w1 t0 t1 t2 t3 t4 => by
    have := hQ E1 a1 w1 t0 t1 t2 t3 t4
    cases ex with
    | normal => exact absurd rfl hne
    | exit n => exact this
    | ret => exact this)

theorem EvX.cond {t : Tmp} {x y : Code} {st s : St} {ex : Ex} {b : Bool} (hc : tmF st t = .val (.bool b)) (h : EvX P n0 (if b then x else y) st ex s) : EvX P n0 (.cond (.tmp t) x y) st ex s := by
  refine fun E0 H0 w0 s0 E a w hx hs hr hn Q hQ => ?_
  have h1 := hr.rep t
  rw [hc] at h1
  exact wp_cond (t := b) h1.val_inv (h E0 H0 w0 s0 E a w hx hs hr hn Q hQ)

theorem EvX.block_exit {n : Nat} {b : Code} {st s : St} (h : EvX P n0 b st (.exit n) s) : EvX P n0 (.block n b) st .normal s :=
  fun E0 H0 w0 s0 E a w hx hs hr hn Q hQ => wp_block (h E0 H0 w0 s0 E a w hx hs hr hn _ fun E1 a1 w1 t0 t1 t2 t3 t4 => by
    have := hQ E1 a1 w1 t0 t1 t2 t3 t4
    simpa [Ex.to, Exit.inBlock] using this)

theorem EvX.block {n : Nat} {b : Code} {st s : St} {ex : Ex} (h : EvX P n0 b st ex s) (hne : ex ≠ .exit n) : EvX P n0 (.block n b) st ex s :=
  fun E0 H0 w0 s0 E a w hx hs hr hn Q hQ => wp_block (h E0 H0 w0 s0 E a w hx hs hr hn _ fun E1 a1 w1 t0 t1 t2 t3 t4 => by
    have := hQ E1 a1 w1 t0 t1 t2 t3 t4
    cases ex with
    | normal => exact this
    | exit i =>
      have hi : i ≠ n := fun e => hne (by rw [e])
      simpa [Ex.to, Exit.inBlock, hi] using this
    | ret => exact this)

/-! ### numbers of one's own, anew -/
theorem Ext.renumber {E0 E : Env} {H0 H H' : Heap} {w0 w : World} (x : Ext E0 H0 w0 (fun id => n0 ≤ id) E H w) (s0 : Sat E0 n0 H0 w0) (r : Nat → Nat) (hlow : ∀ id, id < n0 → r id = id)
    (hH : ∀ id x, H' id = some x → H (r id) = some (x.ren r)) : Ext E0 H0 w0 (fun id => n0 ≤ id) ⟨fun id => E.f (r id), E.I⟩ H' w where
  f := fun id p h => by
    have hid : id < n0 := Nat.lt_of_not_le fun h' => by rw [s0.fresh id h'] at h; cases h
    show E.f (r id) = some p
    rw [hlow id hid]
    exact x.f _ _ h
  nw := fun id p h => by
    by_cases hid : id < n0
    · have h : E.f (r id) = some p := h
      rw [hlow id hid] at h
      exact x.nw _ _ h
    · exact .inr (by omega)
  I := x.I
  I' := x.I'
  fr := x.fr
  hb := fun b h => x.hb b (Hb.of_renumber hH h)
  size := x.size
  os := x.os
  tape := x.tape
  output := x.output

structure RenX (n0 : Nat) (s' s : St) : Prop where
  len : s'.len = s.len
  le : n0 ≤ s'.nx
  le' : n0 ≤ s.nx
  r : ∃ r : Nat → Nat, (∀ i j, r i = r j → i = j) ∧ (∀ id, id < n0 → r id = id) ∧ (∀ id, s'.nx ≤ id → s.nx ≤ r id) ∧ (∀ id x, heapF s'.hp id = some x → heapF s.hp (r id) = some (x.ren r)) ∧ ∀ t, tmF s' t = .any ∨ tmF s t = (tmF s' t).ren r

theorem EvX.renum {c : Code} {st s s' : St} {ex : Ex} (h : EvX P n0 c st ex s) (l : RenX n0 s' s) : EvX P n0 c st ex s' := by
  intro E0 H0 w0 s0 E a w hx hs hr hn Q hQ
  obtain ⟨hl, hle, _, r, h1, hlow, h2, h3, h4⟩ := l
  refine h E0 H0 w0 s0 E a w hx hs hr hn Q fun E' a' w' t0 t1 t2 t3 _ => hQ ⟨fun id => E'.f (r id), E'.I⟩ a' w' (t0.renumber s0 r hlow h3) (t1.renumber r h1 h2 h3) ⟨t2.size.trans hl.symm, fun t => ?_⟩ t3 hle
  rcases h4 t with h | h
  · rw [h]; exact .any _
  · exact Rep.of_ren (E := E') (E0 := ⟨fun id => E'.f (r id), E'.I⟩) (r := r) (fun _ h => h) (fun _ => rfl) (t2.rep t) _ h

theorem EvX.of_renum {c : Code} {st s sc : St} {ex : Ex} (h : EvX P n0 c sc ex s) (l : RenX n0 sc st) : EvX P n0 c st ex s := by
  intro E0 H0 w0 s0 E a w hx hs hr hn Q hQ
  obtain ⟨hl, hle, _, r, h1, hlow, h2, h3, h4⟩ := l
  refine h E0 H0 w0 s0 ⟨fun id => E.f (r id), E.I⟩ a w (hx.renumber s0 r hlow h3) (hs.renumber r h1 h2 h3) ⟨hr.size.trans hl.symm, fun t => ?_⟩ hle Q hQ
  rcases h4 t with h | h
  · rw [h]; exact .any _
  · exact Rep.of_ren (E := E) (E0 := ⟨fun id => E.f (r id), E.I⟩) (r := r) (fun _ h => h) (fun _ => rfl) (hr.rep t) _ h

/-! ### rounds -/
def EvXR (P : Program) (n0 : Nat) (c : Code) (n : Nat) (st : St) (ex : Ex) (st' : St) : Prop :=
  ∀ (E0 : Env) (H0 : Heap) (w0 : World), Sat E0 n0 H0 w0 → ∀ (E : Env) (a : Act) (w : World), Ext E0 H0 w0 (fun id => n0 ≤ id) E (heapF st.hp) w → Sat E st.nx (heapF st.hp) w → RepS E w st a → n0 ≤ st.nx →
    ∀ (Q : Exit → Act → World → Prop), (∀ E' a' w', Ext E0 H0 w0 (fun id => n0 ≤ id) E' (heapF st'.hp) w' → Sat E' st'.nx (heapF st'.hp) w' → RepS E' w' st' a' → a'.defers = a.defers → n0 ≤ st'.nx → Q ex.to a' w') → Code.rounds P c Q n a w

/-- the loop of this body comes from there to here -/
def EvXL (P : Program) (n0 : Nat) (c : Code) (st : St) (ex : Ex) (st' : St) : Prop := ∃ n, EvXR P n0 c n st ex st'

theorem EvXL.step {c : Code} {st s s' : St} {ex : Ex} (h1 : EvX P n0 c st .normal s) (h2 : EvXL P n0 c s ex s') : EvXL P n0 c st ex s' := by
  obtain ⟨n, h2⟩ := h2
  refine ⟨n + 1, fun E0 H0 w0 s0 E a w hx hs hr hn Q hQ => ?_⟩
  rw [rounds_succ]
  exact h1 E0 H0 w0 s0 E a w hx hs hr hn _ fun E1 a1 w1 t0 t1 t2 t3 t4 => h2 E0 H0 w0 s0 E1 a1 w1 t0 t1 t2 t4 Q fun E2 a2 w2 u0 u1 u2 u3 u4 => hQ E2 a2 w2 u0 u1 u2 (u3.trans t3) u4

theorem EvXL.last {c : Code} {st s : St} {ex : Ex} (h : EvX P n0 c st ex s) (hne : ex ≠ .normal) : EvXL P n0 c st ex s := by
  refine ⟨1, fun E0 H0 w0 s0 E a w hx hs hr hn Q hQ => ?_⟩
  rw [rounds_succ]
  refine h E0 H0 w0 s0 E a w hx hs hr hn _ fun E1 a1 w1 t0 t1 t2 t3 t4 => ?_
  have := hQ E1 a1 w1 t0 t1 t2 t3 t4
  cases ex with
  | normal => exact absurd rfl hne
  | exit n => exact this
  | ret => exact this

theorem EvXL.loop {c : Code} {st s : St} {ex : Ex} (h : EvXL P n0 c st ex s) : EvX P n0 (.loop c) st ex s := by
  obtain ⟨n, h⟩ := h
  exact fun E0 H0 w0 s0 E a w hx hs hr hn Q hQ => wp_loop_rounds n (h E0 H0 w0 s0 E a w hx hs hr hn Q hQ)

/-! ### states by lists -/
/-- what a state shall say: closed temporaries, open ones, closed objects, open ones; so many numbers of the function's own -/
structure GoalX where
  len : Nat
  tms : List (Nat × AV) := []
  opn : List (Nat × AV) := []
  objs : List (Nat × AObj) := []
  oob : List (Nat × AObj) := []
  k : Nat := 0

def GoalX.st (G : GoalX) (n0 : Nat) : St := ⟨G.len, putsT (G.tms ++ G.opn), treeH (G.objs ++ G.oob), n0 + G.k⟩

/-- the numbers that stand for n0, n0 + 1 .. -/
def renX (n0 : Nat) (ids : List Nat) (nx id : Nat) : Nat := if id < n0 then id else ids.getD (id - n0) (nx + (id - n0 - ids.length))

theorem renX_low {n0 : Nat} {ids : List Nat} {nx : Nat} (id : Nat) (h : id < n0) : renX n0 ids nx id = id := by simp [renX, h]

theorem renX_ge {ids : List Nat} {nx : Nat} (hl : ∀ x ∈ ids, n0 ≤ x ∧ x < nx) (hn : n0 ≤ nx) (id : Nat) (h : n0 ≤ id) : n0 ≤ renX n0 ids nx id := by
  unfold renX
  rw [if_neg (by omega), List.getD_eq_getElem?_getD]
  by_cases hi : id - n0 < ids.length
  · rw [List.getElem?_eq_getElem hi, Option.getD_some]
    exact (hl _ (List.getElem_mem hi)).1
  · rw [List.getElem?_eq_none (by omega), Option.getD_none]
    omega

theorem renX_inj {ids : List Nat} {nx : Nat} (hd : ids.Nodup) (hl : ∀ x ∈ ids, n0 ≤ x ∧ x < nx) (hn : n0 ≤ nx) (i j : Nat) (h : renX n0 ids nx i = renX n0 ids nx j) : i = j := by
  by_cases hi : i < n0 <;> by_cases hj : j < n0
  · rwa [renX_low i hi, renX_low j hj] at h
  · have := renX_ge hl hn j (by omega)
    rw [renX_low i hi] at h
    omega
  · have := renX_ge hl hn i (by omega)
    rw [renX_low j hj] at h
    omega
  · have h' : renN ids nx (i - n0) = renN ids nx (j - n0) := by
      unfold renX at h
      rw [if_neg hi, if_neg hj] at h
      exact h
    have := renN_inj hd (fun x hx => (hl x hx).2) _ _ h'
    omega

theorem renX_fresh {ids : List Nat} {nx : Nat} (id : Nat) (h : n0 + ids.length ≤ id) : nx ≤ renX n0 ids nx id := by
  unfold renX
  rw [if_neg (by omega), List.getD_eq_getElem?_getD, List.getElem?_eq_none (by omega), Option.getD_none]
  omega

def goalXok (G : GoalX) (n0 : Nat) (ids : List Nat) (s : St) : Bool :=
  nodupB ids && ids.all (fun x => Nat.ble n0 x && Nat.blt x s.nx) && (G.len == s.len) && (G.k == ids.length) && Nat.ble n0 s.nx &&
  G.tms.all (fun p => (p.2.ren (renX n0 ids s.nx)).same (tmF s p.1)) &&
  G.objs.all fun p => match heapF s.hp (renX n0 ids s.nx p.1) with
    | some y => (p.2.ren (renX n0 ids s.nx)).same y
    | none => false

def goalXq (G : GoalX) (n0 : Nat) (ids : List Nat) (s : St) : List Prop :=
  G.opn.map (fun p => tmF s p.1 = p.2.ren (renX n0 ids s.nx)) ++ G.oob.map fun p => heapF s.hp (renX n0 ids s.nx p.1) = some (p.2.ren (renX n0 ids s.nx))

theorem goalX_ok {G : GoalX} {ids : List Nat} {s : St} (h : goalXok G n0 ids s = true) (hq : ∀ p ∈ goalXq G n0 ids s, p) : RenX n0 (G.st n0) s := by
  simp only [goalXok, Bool.and_eq_true, beq_iff_eq, List.all_eq_true, Nat.ble_eq, Nat.blt_eq] at h
  obtain ⟨⟨⟨⟨⟨⟨h1, h2⟩, h3⟩, h4⟩, h7⟩, h5⟩, h6⟩ := h
  refine ⟨h3, Nat.le_add_right _ _, h7, renX n0 ids s.nx, renX_inj (nodupB_ok h1) h2 h7, renX_low, fun id hid => renX_fresh id (by rw [← h4]; exact hid), fun id x hx => ?_, fun t => ?_⟩
  · have hm := hp_mem ((congrFun (treeH_ok (G.objs ++ G.oob)) id).symm.trans hx)
    rcases List.mem_append.1 hm with hm | hm
    · have := h6 _ hm
      split at this
      · rename_i y hy
        rw [hy, AObj.same_ok this]
      · cases this
    · exact hq _ (List.mem_append_right _ (List.mem_map.2 ⟨_, hm, rfl⟩))
  · rcases putsT_get (G.tms ++ G.opn) t with h | ⟨v, hm, h⟩
    · left; simp [tmF, GoalX.st, h]
    · right
      have e : tmF (G.st n0) t = v := by simp [tmF, GoalX.st, h]
      rw [e]
      rcases List.mem_append.1 hm with hm | hm
      · exact (AV.same_ok (h5 _ hm)).symm
      · exact hq _ (List.mem_append_left _ (List.mem_map.2 ⟨_, hm, rfl⟩))

/-- a loop that is shown by hand: the numbers at its head, what the head says, how it ends, what is so there -/
structure LoopX where
  ids : List Nat
  G : GoalX
  ex : Ex
  E : GoalX

def runX (n0 : Nat) (lw : Nat → Option LoopX) (hs : Hints) (P : Program) : Code → St → OutC
  | .seq x y, st =>
    match runX n0 lw hs P x st with
    | some (.normal, s, q) =>
      match runX n0 lw hs P y s with
      | some (e, s', q') => some (e, s', q ++ q')
      | none => none
    | r => r
  | .cond (.tmp t) x y, st =>
    match tmF st t with
    | .val (.bool b) =>
      match hs.br t with
      | some bit =>
        match (if bit then runX n0 lw hs P x st else runX n0 lw hs P y st) with
        | some (e, s, q) => some (e, s, (b = bit) :: q)
        | none => none
      | none => if b then runX n0 lw hs P x st else runX n0 lw hs P y st
    | _ => none
  | .block n b, st =>
    match runX n0 lw hs P b st with
    | some (.exit i, s, q) => if i = n then some (.normal, s, q) else some (.exit i, s, q)
    | r => r
  | .loop b, st =>
    match lw (firstRegion b) with
    | some L => if goalXok L.G n0 L.ids st = true then some (L.ex, L.E.st n0, goalXq L.G n0 L.ids st ++ [EvXL P n0 b (L.G.st n0) L.ex (L.E.st n0)]) else none
    | none => run hs P (.loop b) st
  | c, st => run hs P c st

theorem runX_ok {lw : Nat → Option LoopX} {hs : Hints} (hinl : InlOk P hs.inl) : ∀ (c : Code) (st s : St) (ex : Ex) (q : List Prop), runX n0 lw hs P c st = some (ex, s, q) → (∀ p ∈ q, p) → EvX P n0 c st ex s := by
  intro c
  induction c with
  | seq x y ihx ihy =>
    intro st s ex q h hq
    simp only [runX] at h
    split at h
    · rename_i s1 q1 h1
      split at h
      · rename_i e2 s2 q2 h2
        simp only [Option.some.injEq, Prod.mk.injEq] at h
        obtain ⟨rfl, rfl, rfl⟩ := h
        exact (ihx _ _ _ _ h1 fun p hp => hq p (List.mem_append_left _ hp)).seq (ihy _ _ _ _ h2 fun p hp => hq p (List.mem_append_right _ hp))
      · cases h
    · rename_i hne
      refine (ihx _ _ _ _ h hq).seq_out fun e => ?_
      subst e
      exact hne _ _ h
  | cond c x y ihx ihy =>
    intro st s ex q h hq
    cases c with
    | tmp t =>
      simp only [runX] at h
      split at h
      · rename_i b hb
        split at h
        · rename_i bit _
          split at h
          · rename_i e1 s1 q1 h1
            simp only [Option.some.injEq, Prod.mk.injEq] at h
            obtain ⟨rfl, rfl, rfl⟩ := h
            have : b = bit := hq _ List.mem_cons_self
            subst this
            refine EvX.cond hb ?_
            cases b with
            | true => exact ihx _ _ _ _ h1 fun p hp => hq p (List.mem_cons_of_mem _ hp)
            | false => exact ihy _ _ _ _ h1 fun p hp => hq p (List.mem_cons_of_mem _ hp)
          · cases h
        · refine EvX.cond hb ?_
          cases b with
          | true => exact ihx _ _ _ _ h hq
          | false => exact ihy _ _ _ _ h hq
      · cases h
    | const v =>
      simp only [runX] at h
      exact (run_ok hinl _ _ _ _ _ h hq).toX
    | _ => simp [runX, run] at h
  | block n b ih =>
    intro st s ex q h hq
    simp only [runX] at h
    split at h
    · rename_i i s1 q1 h1
      split at h
      · rename_i hi
        subst hi
        simp only [Option.some.injEq, Prod.mk.injEq] at h
        obtain ⟨rfl, rfl, rfl⟩ := h
        exact (ih _ _ _ _ h1 hq).block_exit
      · rename_i hi
        simp only [Option.some.injEq, Prod.mk.injEq] at h
        obtain ⟨rfl, rfl, rfl⟩ := h
        exact (ih _ _ _ _ h1 hq).block fun e => hi (by injection e)
    · rename_i hne
      refine (ih _ _ _ _ h hq).block fun e => ?_
      subst e
      exact hne _ _ _ h
  | loop b ih =>
    intro st s ex q h hq
    simp only [runX] at h
    split at h
    · rename_i L _
      split at h
      · rename_i hc
        simp only [Option.some.injEq, Prod.mk.injEq] at h
        obtain ⟨rfl, rfl, rfl⟩ := h
        have hl : EvXL P n0 b (L.G.st n0) L.ex (L.E.st n0) := hq _ (List.mem_append_right _ (List.mem_singleton.2 rfl))
        exact hl.loop.of_renum (goalX_ok hc fun p hp => hq p (List.mem_append_left _ hp))
      · cases h
    · exact (run_ok hinl _ _ _ _ _ h hq).toX
  | _ => intro st s ex q h hq; exact (run_ok hinl _ _ _ _ _ h hq).toX

/-- from what G says, code comes by this exit to what E says -/
def stepX (n0 : Nat) (lw : Nat → Option LoopX) (hs : Hints) (P : Program) (c : Code) (G : GoalX) (E : GoalX) (ids : List Nat) : Option (Ex × List Prop) :=
  match runX n0 lw hs P c (G.st n0) with
  | some (e, s, q) => if goalXok E n0 ids s = true then some (e, q ++ goalXq E n0 ids s) else none
  | none => none

theorem stepX_ok {lw : Nat → Option LoopX} {hs : Hints} (hinl : InlOk P hs.inl) {c : Code} {G E : GoalX} {ids : List Nat} {ex : Ex} {q : List Prop} (h : stepX n0 lw hs P c G E ids = some (ex, q)) (hq : ∀ p ∈ q, p) : EvX P n0 c (G.st n0) ex (E.st n0) := by
  unfold stepX at h
  split at h
  · rename_i e s q1 h1
    split at h
    · rename_i hc
      simp only [Option.some.injEq, Prod.mk.injEq] at h
      obtain ⟨rfl, rfl⟩ := h
      exact (runX_ok hinl _ _ _ _ _ h1 fun p hp => hq p (List.mem_append_left _ hp)).renum (goalX_ok hc fun p hp => hq p (List.mem_append_right _ hp))
    · cases h
  · cases h

/-- a function whose loops are shown by hand; of its objects these numbers are told at the end -/
def outX (kp : List Nat) (lw : Nat → Option LoopX) (hs : Hints) (P : Program) (g : FuncId) (args : List AV) (H : List (Nat × AObj)) (n0 : Nat) : Option (AV × List (Nat × AObj) × Nat × List Prop) :=
  match P.funcs[g]? with
  | some fn =>
    match fn.body with
    | some c =>
      match runX n0 lw hs P c ⟨args.length + (fn.ntmps - args.length), treeA args 0 .leaf, treeH H, n0⟩ with
      | some (.exit _, _, _) => none
      | some (_, s, q) => (resL P (tmF s) (heapF s.hp) fn.results.toList).map fun v => (v, pickO (heapF s.hp) kp, s.nx, q)
      | none => none
    | none => none
  | none => none

theorem outX_ok {kp : List Nat} {lw : Nat → Option LoopX} {hs : Hints} (hinl : InlOk P hs.inl) {g : FuncId} {args : List AV} {H L' : List (Nat × AObj)} {nx' : Nat} {v : AV} {q : List Prop}
    (h : outX kp lw hs P g args H n0 = some (v, L', nx', q)) (hq : ∀ p ∈ q, p) : ACall P g args H n0 v L' nx' := by
  unfold outX at h
  split at h
  · rename_i fn hfn
    split at h
    · rename_i c hb
      have key : ∀ ex s, runX n0 lw hs P c ⟨args.length + (fn.ntmps - args.length), treeA args 0 .leaf, treeH H, n0⟩ = some (ex, s, q) → ex = .normal ∨ ex = .ret → resL P (tmF s) (heapF s.hp) fn.results.toList = some v →
          ACall P g args H n0 v (pickO (heapF s.hp) kp) s.nx := by
        intro ex s hrun hex hres E w vs hs' hreps
        refine calls_of_wp hfn hb ?_
        refine runX_ok hinl c _ _ _ _ hrun hq E (hp H) w hs' E _ w (Ext.refl hs' |> fun x => by rw [treeH_ok]; exact x) (by rw [treeH_ok]; exact hs') ?_ (Nat.le_refl _) _ fun E' a' w' t0 t1 t2 t3 t4 => ?_
        · refine ⟨by simp [hreps.1], fun t => ?_⟩
          show Rep E w (((treeA args 0 .leaf).get t).getD .any) ((vs ++ Array.replicate (fn.ntmps - vs.size) undef).getD t undef)
          rw [treeA_ok]
          by_cases ht : t < args.length
          · have h1 : args[t]? = some args[t] := List.getElem?_eq_getElem ht
            have h2 : vs[t]? = some (vs[t]'(by rw [hreps.1]; exact ht)) := by simp [hreps.1, ht]
            have h3 := hreps.2 _ _ _ h1 h2
            have e2 : (vs ++ Array.replicate (fn.ntmps - vs.size) undef).getD t undef = vs[t]'(by rw [hreps.1]; exact ht) := by
              rw [Array.getD_eq_getD_getElem?, Array.getElem?_append_left (by rw [hreps.1]; exact ht), h2]; rfl
            rw [if_pos ⟨Nat.zero_le _, by omega⟩, Nat.sub_zero, h1, e2]
            exact h3
          · rw [if_neg (by omega), Tr.get_leaf]
            exact .any _
        · obtain ⟨u, h1, h2⟩ := resL_run t1 t2 hres
          have hp' : (results fn a'.tmps).run P w' = .ok u w' := h1
          have hsub := pickO_sub (H := heapF s.hp) kp
          have x3 : Ext E (hp H) w (fun id => n0 ≤ id) E' (hp (pickO (heapF s.hp) kp)) w' := ⟨t0.f, t0.nw, t0.I, t0.I', t0.fr, fun b hb => t0.hb b (by
            obtain ⟨id, x, c', sz, h1, h2⟩ := hb
            exact ⟨id, x, c', sz, hsub id x h1, h2⟩), t0.size, t0.os, t0.tape, t0.output⟩
          rcases hex with rfl | rfl <;> exact ⟨t3, u, hp', E', u, rfl, t1.sub hsub, h2, x3⟩
      split at h
      · cases h
      · rename_i ex s1 q1 hne hrun
        simp only [Option.map_eq_some_iff, Prod.mk.injEq] at h
        obtain ⟨v', hres, rfl, rfl, rfl, rfl⟩ := h
        refine key ex _ hrun ?_ hres
        cases ex with
        | normal => exact .inl rfl
        | ret => exact .inr rfl
        | exit n => exact (hne n rfl).elim
      · cases h
    · cases h
  · cases h

/-! ### where a loop lies in a function -/
def loopIn (r : Nat) : Code → Option Code
  | .loop b => if firstRegion b = r then some b else loopIn r b
  | .seq x y => match loopIn r x with | some b => some b | none => loopIn r y
  | .cond _ x y => match loopIn r x with | some b => some b | none => loopIn r y
  | .block _ b => loopIn r b
  | _ => none

/-- the body of function g's loop that begins at region r -/
def loopAt (P : Program) (g : FuncId) (r : Nat) : Code :=
  match P.funcs[g]? with
  | some fn => match fn.body with
    | some c => (loopIn r c).getD .skip
    | none => .skip
  | none => .skip

/-- the same, with hints by function -/
def outXS (known : Inl) (tab : List (Nat × HL)) (P : Program) (g : FuncId) (args : List AV) (H : List (Nat × AObj)) (n0 : Nat) (kp : List Nat) (lws : List (Nat × LoopX)) : Option (AV × List (Nat × AObj) × Nat × List Prop) :=
  outX kp (find1 lws) ((hlOf tab g 0).hs (inlS known tab P 40)) P g args H n0

theorem outXS_ok {known : Inl} (hk : InlOk P known) {tab : List (Nat × HL)} {g : FuncId} {args : List AV} {H L' : List (Nat × AObj)} {kp : List Nat} {lws : List (Nat × LoopX)} {nx' : Nat} {v : AV} {q : List Prop}
    (h : outXS known tab P g args H n0 kp lws = some (v, L', nx', q)) (hq : ∀ p ∈ q, p) : ACall P g args H n0 v L' nx' :=
  outX_ok (hs := (hlOf tab g 0).hs (inlS known tab P 40)) (inlS_ok hk tab 40) h hq

def stepXS (known : Inl) (tab : List (Nat × HL)) (P : Program) (g r : Nat) (G E : GoalX) (ids : List Nat) (n0 : Nat) (lws : List (Nat × LoopX)) : Option (Ex × List Prop) :=
  stepX n0 (find1 lws) ((hlOf tab g 0).hs (inlS known tab P 40)) P (loopAt P g r) G E ids

theorem stepXS_ok {known : Inl} (hk : InlOk P known) {tab : List (Nat × HL)} {g r : Nat} {G E : GoalX} {ids : List Nat} {lws : List (Nat × LoopX)} {ex : Ex} {q : List Prop}
    (h : stepXS known tab P g r G E ids n0 lws = some (ex, q)) (hq : ∀ p ∈ q, p) : EvX P n0 (loopAt P g r) (G.st n0) ex (E.st n0) :=
  stepX_ok (hs := (hlOf tab g 0).hs (inlS known tab P 40)) (inlS_ok hk tab 40) h hq
end
end Go.Proofs.YtfofhpkafhpicaaGreatDoor
