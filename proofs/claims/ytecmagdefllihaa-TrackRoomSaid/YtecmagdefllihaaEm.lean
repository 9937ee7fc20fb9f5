/- An engine for walks, thirteenth part: functions. -/
import Derived.Test.YtecmagdefllihaaEl
namespace Go.Proofs.Ytecmagdefllihaa
open Go.RowKit

/-- what a result is -/
def resA (P : Program) (tm : Nat → AV) (H : Heap) : ResultVar → Option AV
  | .tmp t => some (tm t)
  | .cell p ty =>
    match tm p with
    | .ptr id i j =>
      match H id with
      | some ob =>
        match ob.body with
        | .rows l =>
          match l[i]? with
          | some e => if e.length ≤ ob.sz then partA P ty e j else none
          | none => none
        | _ => none
      | none => none
    | _ => none

def resL (P : Program) (tm : Nat → AV) (H : Heap) : List ResultVar → Option AV
  | [] => some (.tup [])
  | [r] => resA P tm H r
  | [r, r'] => (resA P tm H r).bind fun v => (resA P tm H r').map fun v' => .tup [v, v']
  | [r, r', r''] => (resA P tm H r).bind fun v => (resA P tm H r').bind fun v' => (resA P tm H r'').map fun v'' => .tup [v, v', v'']
  | [r, r', r'', r3] => (resA P tm H r).bind fun v => (resA P tm H r').bind fun v' => (resA P tm H r'').bind fun v'' => (resA P tm H r3).map fun v3 => .tup [v, v', v'', v3]
  | _ => none

def treeA : List AV → Nat → Tr AV → Tr AV
  | [], _, t => t
  | x :: l, i, t => treeA l (i + 1) (t.put i (some x))
def treeH : List (Nat × AObj) → Tr AObj
  | [] => .leaf
  | (k, x) :: l => (treeH l).put k (some x)

theorem treeH_ok : ∀ l, heapF (treeH l) = hp l
  | [] => by funext id; simp [treeH, heapF, hp, Tr.get_leaf]
  | (k, x) :: l => by
    funext id
    have ih := congrFun (treeH_ok l) id
    simp only [heapF] at ih
    simp only [treeH, heapF, hp, Tr.get_put', ih]

theorem treeA_ok : ∀ (l : List AV) (i : Nat) (t : Tr AV) (k : Nat), (treeA l i t).get k = if i ≤ k ∧ k < i + l.length then l[k - i]? else t.get k
  | [], i, t, k => by
    rw [treeA, if_neg]
    intro h
    have h2 := h.2
    simp only [List.length_nil] at h2
    omega
  | x :: l, i, t, k => by
    rw [treeA, treeA_ok l (i + 1), Tr.get_put']
    by_cases e : k = i
    · subst e
      rw [if_neg (by omega), if_pos rfl, if_pos ⟨Nat.le_refl _, by simp⟩]
      simp
    · by_cases h : i + 1 ≤ k ∧ k < i + 1 + l.length
      · rw [if_pos h, if_pos ⟨by omega, by simp; omega⟩, show k - i = (k - (i + 1)) + 1 by omega, List.getElem?_cons_succ]
      · rw [if_neg h, if_neg e, if_neg (by simp; omega)]

/-- a function's text, reckoned -/
def runFn (hs : Hints) (P : Program) (g : FuncId) (args : List AV) (H : List (Nat × AObj)) (nx : Nat) : Option (AV × St × List Prop) :=
  match P.funcs[g]? with
  | some fn =>
    match fn.body with
    | some c =>
      match run hs P c ⟨args.length + (fn.ntmps - args.length), treeA args 0 .leaf, treeH H, nx⟩ with
      | some (.exit _, _, _) => none
      | some (_, s, q) => (resL P (tmF s) (heapF s.hp) fn.results.toList).map fun v => (v, s, q)
      | none => none
    | none => none
  | none => none

section
variable {P : Program} {hs : Hints} {E : Env} {w : World}

theorem resA_run {st : St} {a : Act} {r : ResultVar} {v : AV} (s : Sat E st.nx (heapF st.hp) w) (hr : RepS E w st a) (h : resA P (tmF st) (heapF st.hp) r = some v) :
    ∃ u, (match r with | .tmp t => pure (a.tmps.getD t undef) | .cell p t => do loadVar t (← asAddr (a.tmps.getD p undef)) : Sem Value).run P w = .ok u w ∧ Rep E w v u := by
  cases r with
  | tmp t =>
    simp only [resA, Option.some.injEq] at h
    subst h
    exact ⟨_, rfl, hr.rep t⟩
  | cell p ty =>
    simp only [resA] at h
    split at h
    · rename_i id i j hp'
      split at h
      · rename_i ob hid
        split at h
        · rename_i l hb
          split at h
          · rename_i e he
            split at h
            · rename_i hel
              have rp := hr.rep p
              rw [hp'] at rp
              generalize hu : a.tmps.getD p undef = u at rp
              cases rp with
              | ptr hE =>
                rename_i b c sz
                have ro := s.at_ hid hE
                have hsz : sz = ob.sz := ro.1
                obtain ⟨u, h1, h2⟩ := load_part (w := w) (E := E) (g := b) (o' := i * sz) h (fun k y hy => by
                  have hk : k < e.length := (List.getElem?_eq_some_iff.1 hy).1
                  obtain ⟨a', v', e1, e2, e3⟩ := ro.read (i := i) (j := k) (by rw [hb]; exact (List.getElem?_eq_some_iff.1 he).1) (by omega)
                  rw [hb] at e1
                  simp only [Body.cell?, he, Option.bind_some] at e1
                  rw [hy] at e1
                  injection e1 with e1
                  subst e1
                  exact ⟨v', e2, e3⟩)
                exact ⟨u, by simp only [hu, asAddr, Sem.run_bind, Sem.run_pure, Result.andThen_ok]; exact h1, h2⟩
            · cases h
          · cases h
        · cases h
      · cases h
    · cases h

theorem resL_run {st : St} {a : Act} {fn : Func} {v : AV} (s : Sat E st.nx (heapF st.hp) w) (hr : RepS E w st a) (h : resL P (tmF st) (heapF st.hp) fn.results.toList = some v) :
    ∃ u, (results fn a.tmps).run P w = .ok u w ∧ Rep E w v u := by
  generalize hl : fn.results.toList = rs at h
  have hrs : fn.results = rs.toArray := by rw [← hl]
  unfold resL at h
  split at h
  · simp only [Option.some.injEq] at h
    subst h
    exact ⟨_, by simp [results, hrs]; rfl, .tup rfl fun k a v h1 _ => by simp at h1⟩
  · rename_i r
    obtain ⟨u, h1, h2⟩ := resA_run s hr h
    refine ⟨u, ?_, h2⟩
    unfold results
    rw [hrs]
    cases r <;> (simp only [List.mapM_toArray, List.mapM_cons, List.mapM_nil, Sem.run_bind, Sem.run_map, Sem.run_pure, Result.andThen_ok] at h1 ⊢) <;> (try (injection h1 with h1 _; subst h1)) <;> ((try simp only [h1, Result.andThen_ok]); (first | rfl | simp))
  · rename_i r r'
    obtain ⟨x, g1, h⟩ := Option.bind_eq_some_iff.1 h
    obtain ⟨x', g2, rfl⟩ := Option.map_eq_some_iff.1 h
    obtain ⟨u, h1, h2⟩ := resA_run s hr g1
    obtain ⟨u', h1', h2'⟩ := resA_run s hr g2
    refine ⟨.tuple #[u, u'], ?_, .tup rfl fun k a v e1 e2 => ?_⟩
    · unfold results
      rw [hrs]
      cases r <;> cases r' <;> (simp only [List.mapM_toArray, List.mapM_cons, List.mapM_nil, Sem.run_bind, Sem.run_map, Sem.run_pure, Result.andThen_ok] at h1 h1' ⊢) <;> (try (injection h1 with h1 _; subst h1)) <;> (try (injection h1' with h1' _; subst h1')) <;> ((try simp only [h1, Result.andThen_ok]); (try simp only [h1', Result.andThen_ok]); (first | rfl | simp))
    · match k with
      | 0 => simp at e1 e2; subst e1 e2; exact h2
      | 1 => simp at e1 e2; subst e1 e2; exact h2'
      | k + 2 => simp at e1
  · rename_i r r' r''
    obtain ⟨x, g1, h⟩ := Option.bind_eq_some_iff.1 h
    obtain ⟨x', g2, h⟩ := Option.bind_eq_some_iff.1 h
    obtain ⟨x'', g3, rfl⟩ := Option.map_eq_some_iff.1 h
    obtain ⟨u, h1, h2⟩ := resA_run s hr g1
    obtain ⟨u', h1', h2'⟩ := resA_run s hr g2
    obtain ⟨u'', h1'', h2''⟩ := resA_run s hr g3
    refine ⟨.tuple #[u, u', u''], ?_, .tup rfl fun k a v e1 e2 => ?_⟩
    · unfold results
      rw [hrs]
      cases r <;> cases r' <;> cases r'' <;> (simp only [List.mapM_toArray, List.mapM_cons, List.mapM_nil, Sem.run_bind, Sem.run_map, Sem.run_pure, Result.andThen_ok] at h1 h1' h1'' ⊢) <;> (try (injection h1 with h1 _; subst h1)) <;> (try (injection h1' with h1' _; subst h1')) <;> (try (injection h1'' with h1'' _; subst h1'')) <;> ((try simp only [h1, Result.andThen_ok]); (try simp only [h1', Result.andThen_ok]); (try simp only [h1'', Result.andThen_ok]); (first | rfl | simp))
    · match k with
      | 0 => simp at e1 e2; subst e1 e2; exact h2
      | 1 => simp at e1 e2; subst e1 e2; exact h2'
      | 2 => simp at e1 e2; subst e1 e2; exact h2''
      | k + 3 => simp at e1
  · rename_i r r' r'' r3
    obtain ⟨x, g1, h⟩ := Option.bind_eq_some_iff.1 h
    obtain ⟨x', g2, h⟩ := Option.bind_eq_some_iff.1 h
    obtain ⟨x'', g3, h⟩ := Option.bind_eq_some_iff.1 h
    obtain ⟨x3, g4, rfl⟩ := Option.map_eq_some_iff.1 h
    obtain ⟨u, h1, h2⟩ := resA_run s hr g1
    obtain ⟨u', h1', h2'⟩ := resA_run s hr g2
    obtain ⟨u'', h1'', h2''⟩ := resA_run s hr g3
    obtain ⟨u3, h13, h23⟩ := resA_run s hr g4
    refine ⟨.tuple #[u, u', u'', u3], ?_, .tup rfl fun k a v e1 e2 => ?_⟩
    · unfold results
      rw [hrs]
      cases r <;> cases r' <;> cases r'' <;> cases r3 <;> (simp only [List.mapM_toArray, List.mapM_cons, List.mapM_nil, Sem.run_bind, Sem.run_map, Sem.run_pure, Result.andThen_ok] at h1 h1' h1'' h13 ⊢) <;> (try (injection h1 with h1 _; subst h1)) <;> (try (injection h1' with h1' _; subst h1')) <;> (try (injection h1'' with h1'' _; subst h1'')) <;> (try (injection h13 with h13 _; subst h13)) <;> ((try simp only [h1, Result.andThen_ok]); (try simp only [h1', Result.andThen_ok]); (try simp only [h1'', Result.andThen_ok]); (try simp only [h13, Result.andThen_ok]); (first | rfl | simp))
    · match k with
      | 0 => simp at e1 e2; subst e1 e2; exact h2
      | 1 => simp at e1 e2; subst e1 e2; exact h2'
      | 2 => simp at e1 e2; subst e1 e2; exact h2''
      | 3 => simp at e1 e2; subst e1 e2; exact h23
      | k + 4 => simp at e1
  · cases h

theorem runFn_ok (hinl : InlOk P hs.inl) {g : FuncId} {args : List AV} {H H' : List (Nat × AObj)} {nx : Nat} {v : AV} {s : St} {q : List Prop} (h : runFn hs P g args H nx = some (v, s, q)) (hq : ∀ p ∈ q, p)
    (hsub : ∀ id x, hp H' id = some x → heapF s.hp id = some x) : ACall P g args H nx v H' s.nx := by
  unfold runFn at h
  split at h
  · rename_i fn hfn
    split at h
    · rename_i c hb
      have key : ∀ ex, run hs P c ⟨args.length + (fn.ntmps - args.length), treeA args 0 .leaf, treeH H, nx⟩ = some (ex, s, q) → ex = .normal ∨ ex = .ret → resL P (tmF s) (heapF s.hp) fn.results.toList = some v → ACall P g args H nx v H' s.nx := by
        intro ex hrun hex hres E w vs hs' hreps
        refine calls_of_wp hfn hb ?_
        refine run_ok hinl c _ _ _ _ hrun hq E _ w (by rw [treeH_ok]; exact hs') ?_ _ fun E' a' w' t1 t2 t3 t4 t5 => ?_
        · refine ⟨by simp [hreps.1], fun t => ?_⟩
          show Rep E w (((treeA args 0 .leaf).get t).getD .any) ((vs ++ Array.replicate (fn.ntmps - vs.size) undef).getD t undef)
          rw [treeA_ok]
          by_cases ht : t < args.length
          · have h1 : args[t]? = some args[t] := List.getElem?_eq_getElem ht
            have h2 : vs[t]? = some (vs[t]'(by rw [hreps.1]; exact ht)) := by simp [hreps.1, ht]
            have h3 := hreps.2 _ _ _ h1 h2
            have e2 : (vs ++ Array.replicate (fn.ntmps - vs.size) undef).getD t undef = vs[t]'(by rw [hreps.1]; exact ht) := by
              rw [Array.getD_eq_getD_getElem?, Array.getElem?_append_left (by rw [hreps.1]; exact ht), h2]; rfl
            rw [if_pos ⟨Nat.zero_le _, by omega⟩, Nat.sub_zero, h1, e2]
            exact h3
          · rw [if_neg (by omega), Tr.get_leaf]
            exact .any _
        · obtain ⟨u, h1, h2⟩ := resL_run t1 t2 hres
          rw [treeH_ok] at t3
          have hp' : (results fn a'.tmps).run P w' = .ok u w' := h1
          have x3 : Ext E (hp H) w (fun id => nx ≤ id) E' (hp H') w' := ⟨t3.f, t3.nw, t3.I, t3.I', t3.fr, fun b hb => t3.hb b (by
            obtain ⟨id, x, c', sz, h1, h2⟩ := hb
            exact ⟨id, x, c', sz, hsub id x h1, h2⟩), t3.size, t3.os, t3.tape, t3.output⟩
          rcases hex with rfl | rfl <;> exact ⟨t4, u, hp', E', u, rfl, t1.sub hsub, h2, x3⟩
      split at h
      · cases h
      · rename_i ex s1 q1 hne hrun
        simp only [Option.map_eq_some_iff, Prod.mk.injEq] at h
        obtain ⟨v', hres, rfl, rfl, rfl⟩ := h
        refine key ex hrun ?_ hres
        cases ex with
        | normal => exact .inl rfl
        | ret => exact .inr rfl
        | exit n => exact (hne n rfl).elim
      · cases h
    · cases h
  · cases h

theorem inl_none : InlOk P (fun _ _ _ _ => none) := fun _ _ _ _ _ _ _ _ h => by cases h

theorem ACall.sub {g : FuncId} {args : List AV} {H H1 H2 : List (Nat × AObj)} {nx n1 : Nat} {v : AV} (h : ACall P g args H nx v H1 n1) (hsub : ∀ id x, hp H2 id = some x → hp H1 id = some x) : ACall P g args H nx v H2 n1 := by
  intro E w vs hs' hreps
  refine Calls.mono (h E w vs hs' hreps) fun e w' hh => ?_
  obtain ⟨E', u, rfl, t1, t2, t3⟩ := hh
  refine ⟨E', u, rfl, t1.sub hsub, t2, t3.f, t3.nw, t3.I, t3.I', t3.fr, fun b hb => t3.hb b ?_, t3.size, t3.os, t3.tape, t3.output⟩
  obtain ⟨id, x, c', sz, h1, h2⟩ := hb
  exact ⟨id, x, c', sz, hsub id x h1, h2⟩

/-- what a call leaves behind that is still of use -/
def keepL (v : AV) (H : List (Nat × AObj)) (K : Heap) : List (Nat × AObj) := pickO K (reach K 1000 (idsOf 4 v ++ H.map (·.1)) [])

/-- the functions that are called are reckoned too, so deep; those that 'known' knows are not -/
def inlK (known : Inl) (hs : Hints) (P : Program) : Nat → Inl
  | 0 => known
  | n + 1 => fun g xs L nx =>
    match known g xs L nx with
    | some r => some r
    | none =>
      match runFn { hs with inl := inlK known hs P n } P g xs L nx with
      | some (v, s, q) => if hs.cl then (if nx ≤ s.nx then some (v, keepL v L (heapF s.hp), s.nx, q) else none) else some (v, keepL v L (heapF s.hp), s.nx, (nx ≤ s.nx) :: q)
      | none => none

theorem inlK_ok {known : Inl} (hk : InlOk P known) (hs : Hints) : ∀ n, InlOk P (inlK known hs P n)
  | 0 => hk
  | n + 1 => fun g xs L nx v L' nx' q h hq => by
    simp only [inlK] at h
    split at h
    · rename_i r h0
      injection h with h
      subst h
      exact hk _ _ _ _ _ _ _ _ h0 hq
    · split at h
      · rename_i v1 s q1 h1
        split at h
        · split at h
          · rename_i hle
            simp only [Option.some.injEq, Prod.mk.injEq] at h
            obtain ⟨rfl, rfl, rfl, rfl⟩ := h
            exact ⟨runFn_ok (inlK_ok hk hs n) h1 hq (pickO_sub _), hle⟩
          · cases h
        · simp only [Option.some.injEq, Prod.mk.injEq] at h
          obtain ⟨rfl, rfl, rfl, rfl⟩ := h
          exact ⟨runFn_ok (inlK_ok hk hs n) h1 (fun p hp => hq p (List.mem_cons_of_mem _ hp)) (pickO_sub _), hq _ List.mem_cons_self⟩
      · cases h

def noneKnown : Inl := fun _ _ _ _ => none

/-- the result seen otherwise, and less said of the memory -/
theorem ACall.as {g : FuncId} {args : List AV} {H H1 H2 : List (Nat × AObj)} {nx n1 n2 : Nat} {v v' : AV} {c : Co2} {B : List Nat} {obs : List Prop} (h : ACall P g args H nx v H1 n1) (hc : co2 (hp H1) B v c = some (v', obs)) (hobs : ∀ p ∈ obs, p)
    (hB : ∀ id ∈ B, ∃ x, hp H1 id = some x) (hsub : ∀ id x, hp H2 id = some x → id ∉ B ∧ hp H1 id = some x) (hn : n1 ≤ n2) : ACall P g args H nx v' H2 n2 := by
  intro E w vs hs' hreps
  refine Calls.mono (h E w vs hs' hreps) fun e w' hh => ?_
  obtain ⟨E', u, rfl, t1, t2, t3⟩ := hh
  obtain ⟨f1, f2⟩ := sat_frz (N := fun id => nx ≤ id) t1 hB
  have f3 := (f1.sub (K := hp H2) fun id x hx => dropH_some.2 (hsub id x hx)).up hn
  refine ⟨E'.frz B, u, rfl, f3, co2_ok t1 hc hobs t2, ?_⟩
  have x2 := t3.trans f2 (fun _ h => h) (fun _ h => h) (M := fun id => nx ≤ id)
  refine ⟨x2.f, x2.nw, x2.I, x2.I', x2.fr, fun b hb => x2.hb b ?_, x2.size, x2.os, x2.tape, x2.output⟩
  obtain ⟨id, x, c', sz, h1, h2⟩ := hb
  exact ⟨id, x, c', sz, dropH_some.2 (hsub id x h1), h2⟩
end
end Go.Proofs.Ytecmagdefllihaa
