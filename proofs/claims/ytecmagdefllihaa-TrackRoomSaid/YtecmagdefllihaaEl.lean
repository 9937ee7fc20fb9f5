/- An engine for walks, twelfth part: code and functions. -/
import Derived.Test.YtecmagdefllihaaEs
namespace Go.Proofs.Ytecmagdefllihaa
open Go.RowKit

/-- out of that state the code comes to this one, by this exit -/
def Ev (P : Program) (c : Code) (st : St) (ex : Ex) (st' : St) : Prop :=
  ∀ (E : Env) (a : Act) (w : World), Sat E st.nx (heapF st.hp) w → RepS E w st a → ∀ (Q : Exit → Act → World → Prop),
    (∀ E' a' w', Sat E' st'.nx (heapF st'.hp) w' → RepS E' w' st' a' → Ext E (heapF st.hp) w (fun id => st.nx ≤ id) E' (heapF st'.hp) w' → a'.defers = a.defers → st.nx ≤ st'.nx → Q ex.to a' w') → c.wp P Q a w

abbrev OutC := Option (Ex × St × List Prop)

def runLoop (f : St → OutC) : Nat → St → OutC
  | 0, _ => none
  | n + 1, st =>
    match f st with
    | some (.normal, s, q) =>
      match runLoop f n s with
      | some (e, s', q') => some (e, s', q ++ q')
      | none => none
    | r => r

def firstRegion : Code → Nat
  | .region r _ _ => r
  | .seq a _ => firstRegion a
  | .block _ b => firstRegion b
  | .loop b => firstRegion b
  | _ => 0

def runRegion (hs : Hints) (P : Program) (r : Nat) (ops : Array Oper) (st : St) : OutC :=
  match runOps hs P r ops st.nx ops.toList 0 ⟨st.len, st.tm, st.hp, st.nx + ops.size⟩ with
  | some (s, q) => some (.normal, s, q)
  | none => none

/-- a region whose order is open -/
def runDraw (hs : Hints) (P : Program) (r : Nat) (ops : Array Oper) (st : St) : OutC :=
  match runRec hs P r ops st.nx ops.toList 0 ⟨st.len, st.tm, st.hp, st.nx + ops.size⟩ with
  | some (rs, s, q) => if P.follows .mixedOrders && apartOk ops rs then some (.normal, s, q) else none
  | none => none

/-- one of the rounds is the last -/
def famP : List (List Prop × List Prop) → Prop
  | [] => False
  | (q', q) :: l => (∀ p ∈ q, p) ∨ ((∀ p ∈ q', p) ∧ famP l)

def runFam (f : Bool → St → OutC) (F : LoopFam) : Nat → St → Option (Nat × St × List (List Prop × List Prop))
  | 0, st =>
    match f false st with
    | some (.exit e, s, q) => some (e, s.trim F.ts' F.ids' F.nx, [([False], q)])
    | _ => none
  | n + 1, st =>
    match f false st with
    | some (.exit e, s, q) =>
      match f true st with
      | some (.normal, s', q') =>
        match runFam f F n (s'.trim F.ts F.ids 0) with
        | some (e2, s2, l) => if e2 = e ∧ saysAt s2 s F.ts' F.ids' = true then some (e, s2, (q', q) :: l) else none
        | none => none
      | _ => none
    | _ => none

def Hints.at (hs : Hints) (t : Tmp) (bit : Bool) : Hints := { hs with br := fun k => if k = t then some bit else hs.br k }

def run : Hints → Program → Code → St → OutC
  | _, _, .skip, st => some (.normal, st, [])
  | _, _, .label _, st => some (.normal, st, [])
  | _, _, .exit n, st => some (.exit n, st, [])
  | _, _, .ret, st => some (.ret, st, [])
  | hs, P, .region r ops false, st => runRegion hs P r ops st
  | hs, P, .region r ops true, st => runDraw hs P r ops st
  | hs, P, .seq x y, st =>
    match run hs P x st with
    | some (.normal, s, q) =>
      match run hs P y s with
      | some (e, s', q') => some (e, s', q ++ q')
      | none => none
    | r => r
  | hs, P, .cond (.tmp t) x y, st =>
    match tmF st t with
    | .val (.bool b) =>
      match hs.br t with
      | some bit =>
        match (if bit then run hs P x st else run hs P y st) with
        | some (e, s, q) => some (e, s, (b = bit) :: q)
        | none => none
      | none => if b then run hs P x st else run hs P y st
    | _ => none
  | hs, P, .block n b, st =>
    match run hs P b st with
    | some (.exit i, s, q) => if i = n then some (.normal, s, q) else some (.exit i, s, q)
    | r => r
  | hs, P, .loop b, st =>
    match hs.fam (firstRegion b) with
    | some F =>
      match runFam (fun bit => run (hs.at F.t bit) P b) F F.n st with
      | some (e, s, q) => some (.exit e, s, [famP q])
      | none => none
    | none =>
    match hs.lp (firstRegion b) with
    | some (e, s) => some (e, s, [Ev P (.loop b) st e s])
    | none => runLoop (run hs P b) hs.fuel st
  | _, _, _, _ => none

section
variable {P : Program} {hs : Hints}

theorem Ev.refl {c : Code} {st : St} {ex : Ex} (h : ∀ a w (Q : Exit → Act → World → Prop), Q ex.to a w → c.wp P Q a w) : Ev P c st ex st :=
  fun _ a w s hr Q hQ => h a w Q (hQ _ a w s hr (Ext.refl s) rfl (Nat.le_refl _))

theorem ext_up {E E' E'' : Env} {H H' H'' : Heap} {w w' w'' : World} {n m : Nat} (x : Ext E H w (fun id => n ≤ id) E' H' w') (y : Ext E' H' w' (fun id => m ≤ id) E'' H'' w'') (h : n ≤ m) : Ext E H w (fun id => n ≤ id) E'' H'' w'' :=
  x.trans y (fun _ h => h) fun _ h' => Nat.le_trans h h'

theorem Ev.seq {x y : Code} {st s s' : St} {ex : Ex} (h1 : Ev P x st .normal s) (h2 : Ev P y s ex s') : Ev P (.seq x y) st ex s' := by
  refine fun E a w hs hr Q hQ => wp_seq (h1 E a w hs hr _ fun E1 a1 w1 t1 t2 t3 t4 t5 => ?_)
  exact h2 E1 a1 w1 t1 t2 Q fun E2 a2 w2 u1 u2 u3 u4 u5 => hQ E2 a2 w2 u1 u2 (ext_up t3 u3 t5) (u4.trans t4) (Nat.le_trans t5 u5)

theorem Ev.seq_out {x y : Code} {st s : St} {ex : Ex} (h1 : Ev P x st ex s) (hne : ex ≠ .normal) : Ev P (.seq x y) st ex s :=
  fun E a w hs hr Q hQ => wp_seq (h1 E a w hs hr _ fun E1 a1 w1 t1 t2 t3 t4 t5 => by
    have := hQ E1 a1 w1 t1 t2 t3 t4 t5
    cases ex with
    | normal => exact absurd rfl hne
    | exit n => exact this
    | ret => exact this)

theorem Ev.cond {t : Tmp} {x y : Code} {st s : St} {ex : Ex} {b : Bool} (hc : tmF st t = .val (.bool b)) (h : Ev P (if b then x else y) st ex s) : Ev P (.cond (.tmp t) x y) st ex s := by
  refine fun E a w hs hr Q hQ => ?_
  have h1 := hr.rep t
  rw [hc] at h1
  exact wp_cond (t := b) h1.val_inv (h E a w hs hr Q hQ)

theorem Ev.block_exit {n : Nat} {b : Code} {st s : St} (h : Ev P b st (.exit n) s) : Ev P (.block n b) st .normal s :=
  fun E a w hs hr Q hQ => wp_block (h E a w hs hr _ fun E1 a1 w1 t1 t2 t3 t4 t5 => by
    have := hQ E1 a1 w1 t1 t2 t3 t4 t5
    simpa [Ex.to, Exit.inBlock] using this)

theorem Ev.block {n : Nat} {b : Code} {st s : St} {ex : Ex} (h : Ev P b st ex s) (hne : ex ≠ .exit n) : Ev P (.block n b) st ex s :=
  fun E a w hs hr Q hQ => wp_block (h E a w hs hr _ fun E1 a1 w1 t1 t2 t3 t4 t5 => by
    have := hQ E1 a1 w1 t1 t2 t3 t4 t5
    cases ex with
    | normal => exact this
    | exit i =>
      have hi : i ≠ n := fun e => hne (by rw [e])
      simpa [Ex.to, Exit.inBlock, hi] using this
    | ret => exact this)

theorem runRegion_ok (hinl : InlOk P hs.inl) {r : Nat} {ops : Array Oper} {st s : St} {ex : Ex} {q : List Prop} (h : runRegion hs P r ops st = some (ex, s, q)) (hq : ∀ p ∈ q, p) : Ev P (.region r ops false) st ex s := by
  unfold runRegion at h
  split at h
  · rename_i s' q' h1
    simp only [Option.some.injEq, Prod.mk.injEq] at h
    obtain ⟨rfl, rfl, rfl⟩ := h
    exact fun E a w hs' hr Q hQ => wp_region_list (runOps_ok (n := ops.size) hinl ops.toList 0 _ _ _ E a w h1 hq (by simp) (Nat.le_refl _) (fun k _ _ => hs'.fresh _ (by omega)) (hs'.up (Nat.le_add_right _ _)) ⟨hr.size, hr.rep⟩ Q
      fun E' a' w' t1 t2 t3 t4 t5 => hQ E' a' w' t1 t2 t3 t4 (Nat.le_trans (Nat.le_add_right _ _) t5))
  · cases h

theorem runDraw_ok (hinl : InlOk P hs.inl) {r : Nat} {ops : Array Oper} {st s : St} {ex : Ex} {q : List Prop} (h : runDraw hs P r ops st = some (ex, s, q)) (hq : ∀ p ∈ q, p) : Ev P (.region r ops true) st ex s := by
  unfold runDraw at h
  split at h
  · rename_i rs s' q' h1
    split at h
    · rename_i hc
      simp only [Bool.and_eq_true] at hc
      simp only [Option.some.injEq, Prod.mk.injEq] at h
      obtain ⟨rfl, rfl, rfl⟩ := h
      have hR : ∀ k x, rs[k]? = some x → (fun i => rs.getD i ⟨none, .any, [], 0, false, [], []⟩) (0 + k) = x := fun k x hx => by
        simp [hx]
      obtain ⟨g1, g2, g3, g4, g5, g6⟩ := runRec_ok (R := fun i => rs.getD i ⟨none, .any, [], 0, false, [], []⟩) (tm0 := tmF st) (H0 := heapF st.hp) (nx0 := st.nx + ops.size) ops.toList 0 _ _ _ _ h1 hq (fun k o ho => by simpa using ho) hR rfl rfl rfl
      simp only [Array.length_toList, Nat.zero_add] at g1 g2 g3 g4 g5
      have hA := ancOk_of (show statOk ops = true by have := hc.2; unfold apartOk at this; simp only [Bool.and_eq_true] at this; exact this.1)
      have hP := pairsOk_of (R := fun i => rs.getD i ⟨none, .any, [], 0, false, [], []⟩) g1 (fun k x hx => by simpa using hR k x hx) (fun i hi => recStat_of (g2 i hi).1) hc.2
      intro E a w hs' hr Q hQ
      refine wp_region_any hc.1 ?_
      have hX : ∀ i, (Array.replicate ops.size false).getD i false = false := fun i => by
        by_cases hi : i < ops.size <;> simp [hi]
      have z1 : ∀ n, nxAt (fun i => rs.getD i ⟨none, .any, [], 0, false, [], []⟩) (fun i => (Array.replicate ops.size false).getD i false) (st.nx + ops.size) n = st.nx + ops.size := fun n => by
        rw [nxAt_skip (i := 0) n (Nat.zero_le _) fun j _ _ _ => hX j]; rfl
      have z2 : ∀ n, HAt (fun i => rs.getD i ⟨none, .any, [], 0, false, [], []⟩) (fun i => (Array.replicate ops.size false).getD i false) (heapF st.hp) n = heapF st.hp := fun n => funext fun id => by
        rw [HAt_skip (i := 0) n id (Nat.zero_le _) fun j _ _ _ => hX j]; rfl
      have z3 : ∀ n, tmAt (fun i => rs.getD i ⟨none, .any, [], 0, false, [], []⟩) (fun i => (Array.replicate ops.size false).getD i false) (tmF st) n = tmF st := fun n => funext fun t => by
        rw [tmAt_skip (i := 0) n t (Nat.zero_le _) fun j _ _ _ => hX j]; rfl
      have hsw := (hs'.heap (w' := { w with drawn := w.drawn + 1 }) rfl)
      have hxw := Ext.heap (w' := { w with drawn := w.drawn + 1 }) (N := fun id => st.nx ≤ id) hs' rfl rfl rfl rfl
      have hrw : ∀ t, Rep E { w with drawn := w.drawn + 1 } (tmF st t) (a.tmps.getD t undef) := fun t => Rep.same (w := w) (w' := { w with drawn := w.drawn + 1 }) (fun b _ => rfl) (hr.rep t)
      refine draw_any hinl (base := st.nx) (len := st.len) (tm0 := tmF st) (H0 := heapF st.hp) (nx0 := st.nx + ops.size) rfl (fun i hi => (g2 i hi).1) (fun i hi => (g2 i hi).2) hA hP ops.size _ E a _ (by simp) (fun i o _ h => by rw [hX] at h; cases h)
        (by exact Nat.le_trans List.countP_le_length (by simp)) (by rw [z1, z2]; exact hsw.up (Nat.le_add_right _ _)) (by rw [z3]; exact ⟨hrw⟩) hr.size (fun k _ _ => hs'.fresh _ (by omega)) (by rw [z1]; omega) Q fun E' a' w' t1 t2 t3 t4 t5 t6 => ?_
      rw [z2] at t4
      rw [z1] at t6
      rw [← g4] at t1 t4
      rw [← g5] at t1 t6
      rw [← g3] at t2
      refine hQ E' a' w' t1 ⟨by rw [t3, g6], t2.rep⟩ (hxw.trans t4 (fun _ h => h) fun _ h => h) t5 (by omega)
    · cases h
  · cases h

/-- round after round -/
theorem runLoop_ok {f : St → OutC} {c : Code} (hf : ∀ st ex s q, f st = some (ex, s, q) → (∀ p ∈ q, p) → Ev P c st ex s) :
    ∀ (n : Nat) (st s : St) (ex : Ex) (q : List Prop), runLoop f n st = some (ex, s, q) → (∀ p ∈ q, p) → ∀ (E : Env) (a : Act) (w : World), Sat E st.nx (heapF st.hp) w → RepS E w st a → ∀ (Q : Exit → Act → World → Prop),
    (∀ E' a' w', Sat E' s.nx (heapF s.hp) w' → RepS E' w' s a' → Ext E (heapF st.hp) w (fun id => st.nx ≤ id) E' (heapF s.hp) w' → a'.defers = a.defers → st.nx ≤ s.nx → Q ex.to a' w') → Code.rounds P c Q n a w
  | 0, _, _, _, _, h, _ => by simp [runLoop] at h
  | n + 1, st, s, ex, q, h, hq => by
    intro E a w hs hr Q hQ
    rw [rounds_succ]
    simp only [runLoop] at h
    split at h
    · rename_i s1 q1 h1
      split at h
      · rename_i e2 s2 q2 h2
        simp only [Option.some.injEq, Prod.mk.injEq] at h
        obtain ⟨rfl, rfl, rfl⟩ := h
        refine hf _ _ _ _ h1 (fun p hp => hq p (List.mem_append_left _ hp)) E a w hs hr _ fun E1 a1 w1 t1 t2 t3 t4 t5 => ?_
        exact runLoop_ok hf n _ _ _ _ h2 (fun p hp => hq p (List.mem_append_right _ hp)) E1 a1 w1 t1 t2 Q fun E2 a2 w2 u1 u2 u3 u4 u5 => hQ E2 a2 w2 u1 u2 (ext_up t3 u3 t5) (u4.trans t4) (Nat.le_trans t5 u5)
      · cases h
    · rename_i hne
      refine hf _ _ _ _ h hq E a w hs hr _ fun E1 a1 w1 t1 t2 t3 t4 t5 => ?_
      have := hQ E1 a1 w1 t1 t2 t3 t4 t5
      cases ex with
      | normal => exact absurd h (hne _ _)
      | exit i => exact this
      | ret => exact this

theorem Ev.less {c : Code} {st s s' : St} {ex : Ex} (h : Ev P c st ex s) (l : Less s' s) : Ev P c st ex s' := by
  refine fun E a w hs hr Q hQ => h E a w hs hr Q fun E' a' w' t1 t2 t3 t4 t5 => ?_
  refine hQ E' a' w' ((t1.sub l.hp).up l.nx) ⟨t2.size.trans l.len.symm, fun t => ?_⟩ ⟨t3.f, t3.nw, t3.I, t3.I', t3.fr, fun b hb => t3.hb b ?_, t3.size, t3.os, t3.tape, t3.output⟩ t4 (Nat.le_trans t5 l.nx)
  · rcases l.tm t with h | h
    · rw [h]; exact .any _
    · rw [h]; exact t2.rep t
  · obtain ⟨id, x, c', sz, h1, h2⟩ := hb
    exact ⟨id, x, c', sz, l.hp id x h1, h2⟩

/-- so many rounds, and this is where they end -/
def EvR (P : Program) (c : Code) (n : Nat) (st : St) (ex : Ex) (s : St) : Prop :=
  ∀ (E : Env) (a : Act) (w : World), Sat E st.nx (heapF st.hp) w → RepS E w st a → ∀ (Q : Exit → Act → World → Prop),
    (∀ E' a' w', Sat E' s.nx (heapF s.hp) w' → RepS E' w' s a' → Ext E (heapF st.hp) w (fun id => st.nx ≤ id) E' (heapF s.hp) w' → a'.defers = a.defers → st.nx ≤ s.nx → Q ex.to a' w') → Code.rounds P c Q n a w

theorem EvR.step {c : Code} {n : Nat} {st s s' : St} {ex : Ex} (h1 : Ev P c st .normal s) (h2 : EvR P c n s ex s') : EvR P c (n + 1) st ex s' := by
  intro E a w hs hr Q hQ
  rw [rounds_succ]
  refine h1 E a w hs hr _ fun E1 a1 w1 t1 t2 t3 t4 t5 => ?_
  exact h2 E1 a1 w1 t1 t2 Q fun E2 a2 w2 u1 u2 u3 u4 u5 => hQ E2 a2 w2 u1 u2 (ext_up t3 u3 t5) (u4.trans t4) (Nat.le_trans t5 u5)

theorem EvR.last {c : Code} {st s : St} {e : Nat} (h : Ev P c st (.exit e) s) : EvR P c 1 st (.exit e) s := by
  intro E a w hs hr Q hQ
  rw [rounds_succ]
  exact h E a w hs hr _ fun E1 a1 w1 t1 t2 t3 t4 t5 => hQ E1 a1 w1 t1 t2 t3 t4 t5

theorem runFam_ok {f : Bool → St → OutC} {c : Code} {F : LoopFam} (hf : ∀ bit st ex s q, f bit st = some (ex, s, q) → (∀ p ∈ q, p) → Ev P c st ex s) :
    ∀ (n : Nat) (st : St) {e : Nat} {s : St} {l : List (List Prop × List Prop)}, runFam f F n st = some (e, s, l) → (∃ X : St, s = X.trim F.ts' F.ids' F.nx) ∧ (famP l → ∃ k, EvR P c k st (.exit e) s)
  | 0, st, e, s, l, h => by
    simp only [runFam] at h
    split at h
    · rename_i e1 s1 q1 h1
      simp only [Option.some.injEq, Prod.mk.injEq] at h
      obtain ⟨rfl, rfl, rfl⟩ := h
      refine ⟨⟨_, rfl⟩, fun hp => ?_⟩
      rcases hp with hp | ⟨hp, _⟩
      · exact ⟨1, EvR.last ((hf _ _ _ _ _ h1 hp).less (Less.trim _ _ _ _))⟩
      · exact (hp False (List.mem_singleton.2 rfl)).elim
    · cases h
  | n + 1, st, e, s, l, h => by
    simp only [runFam] at h
    split at h
    · rename_i e1 s1 q1 h1
      split at h
      · rename_i s2 q2 h2
        split at h
        · rename_i e3 s3 l3 h3
          split at h
          · rename_i hc
            simp only [Option.some.injEq, Prod.mk.injEq] at h
            obtain ⟨rfl, rfl, rfl⟩ := h
            obtain ⟨⟨X, hX⟩, ih⟩ := runFam_ok hf n _ h3
            refine ⟨⟨X, hX⟩, fun hp => ?_⟩
            rcases hp with hp | ⟨hp, hl⟩
            · refine ⟨1, EvR.last ((hf _ _ _ _ _ h1 hp).less ?_)⟩
              have := hc.2
              rw [hX] at this ⊢
              exact saysAt_ok this
            · obtain ⟨k, hk⟩ := ih hl
              rw [hc.1] at hk
              exact ⟨k + 1, EvR.step ((hf _ _ _ _ _ h2 hp).less (Less.trim _ _ _ _)) hk⟩
          · cases h
        · cases h
      · cases h
    · cases h

theorem run_all : ∀ (c : Code) (hs : Hints), InlOk P hs.inl → ∀ (st s : St) (ex : Ex) (q : List Prop), run hs P c st = some (ex, s, q) → (∀ p ∈ q, p) → Ev P c st ex s := by
  intro c
  induction c with
  | skip =>
    intro hs hinl st s ex q h _
    simp only [run, Option.some.injEq, Prod.mk.injEq] at h
    obtain ⟨rfl, rfl, _⟩ := h
    exact Ev.refl fun a w Q hQ => wp_skip hQ
  | label l =>
    intro hs hinl st s ex q h _
    simp only [run, Option.some.injEq, Prod.mk.injEq] at h
    obtain ⟨rfl, rfl, _⟩ := h
    exact Ev.refl fun a w Q hQ => wp_label hQ
  | exit n =>
    intro hs hinl st s ex q h _
    simp only [run, Option.some.injEq, Prod.mk.injEq] at h
    obtain ⟨rfl, rfl, _⟩ := h
    exact Ev.refl fun a w Q hQ => wp_exit hQ
  | ret =>
    intro hs hinl st s ex q h _
    simp only [run, Option.some.injEq, Prod.mk.injEq] at h
    obtain ⟨rfl, rfl, _⟩ := h
    exact Ev.refl fun a w Q hQ => wp_ret hQ
  | region r ops draw =>
    intro hs hinl st s ex q h hq
    cases draw with
    | false => exact runRegion_ok hinl h hq
    | true => exact runDraw_ok hinl h hq
  | seq x y ihx ihy =>
    intro hs hinl st s ex q h hq
    simp only [run] at h
    split at h
    · rename_i s1 q1 h1
      split at h
      · rename_i e2 s2 q2 h2
        simp only [Option.some.injEq, Prod.mk.injEq] at h
        obtain ⟨rfl, rfl, rfl⟩ := h
        exact (ihx hs hinl _ _ _ _ h1 fun p hp => hq p (List.mem_append_left _ hp)).seq (ihy hs hinl _ _ _ _ h2 fun p hp => hq p (List.mem_append_right _ hp))
      · cases h
    · rename_i hne
      refine (ihx hs hinl _ _ _ _ h hq).seq_out fun e => ?_
      subst e
      exact hne _ _ h
  | cond c x y ihx ihy =>
    intro hs hinl st s ex q h hq
    cases c with
    | tmp t =>
      simp only [run] at h
      split at h
      · rename_i b hb
        split at h
        · rename_i bit _
          split at h
          · rename_i e1 s1 q1 h1
            simp only [Option.some.injEq, Prod.mk.injEq] at h
            obtain ⟨rfl, rfl, rfl⟩ := h
            have : b = bit := hq _ List.mem_cons_self
            subst this
            refine Ev.cond hb ?_
            cases b with
            | true => exact ihx hs hinl _ _ _ _ h1 fun p hp => hq p (List.mem_cons_of_mem _ hp)
            | false => exact ihy hs hinl _ _ _ _ h1 fun p hp => hq p (List.mem_cons_of_mem _ hp)
          · cases h
        · refine Ev.cond hb ?_
          cases b with
          | true => exact ihx hs hinl _ _ _ _ h hq
          | false => exact ihy hs hinl _ _ _ _ h hq
      · cases h
    | _ => simp [run] at h
  | block n b ih =>
    intro hs hinl st s ex q h hq
    simp only [run] at h
    split at h
    · rename_i i s1 q1 h1
      split at h
      · rename_i hi
        subst hi
        simp only [Option.some.injEq, Prod.mk.injEq] at h
        obtain ⟨rfl, rfl, rfl⟩ := h
        exact (ih hs hinl _ _ _ _ h1 hq).block_exit
      · rename_i hi
        simp only [Option.some.injEq, Prod.mk.injEq] at h
        obtain ⟨rfl, rfl, rfl⟩ := h
        exact (ih hs hinl _ _ _ _ h1 hq).block fun e => hi (by injection e)
    · rename_i hne
      refine (ih hs hinl _ _ _ _ h hq).block fun e => ?_
      subst e
      exact hne _ _ _ h
  | loop b ih =>
    intro hs hinl st s ex q h hq
    simp only [run] at h
    split at h
    · rename_i F _
      split at h
      · rename_i e1 s1 l1 h1
        simp only [Option.some.injEq, Prod.mk.injEq] at h
        obtain ⟨rfl, rfl, rfl⟩ := h
        obtain ⟨k, hk⟩ := (runFam_ok (fun bit st ex s q h hq => ih (hs.at F.t bit) hinl st s ex q h hq) F.n st h1).2 (hq _ (List.mem_singleton.2 rfl))
        exact fun E a w hs' hr Q hQ => wp_loop_rounds _ (hk E a w hs' hr Q hQ)
      · cases h
    split at h
    · simp only [Option.some.injEq, Prod.mk.injEq] at h
      obtain ⟨rfl, rfl, rfl⟩ := h
      exact hq _ (List.mem_singleton.2 rfl)
    · exact fun E a w hs' hr Q hQ => wp_loop_rounds _ (runLoop_ok (fun st ex s q h hq => ih hs hinl st s ex q h hq) _ _ _ _ _ h hq E a w hs' hr Q hQ)
  | _ => intro hs hinl st s ex q h _; simp [run] at h

theorem run_ok (hinl : InlOk P hs.inl) : ∀ (c : Code) (st s : St) (ex : Ex) (q : List Prop), run hs P c st = some (ex, s, q) → (∀ p ∈ q, p) → Ev P c st ex s := fun c => run_all c hs hinl
end
end Go.Proofs.Ytecmagdefllihaa
