/- An engine for walks: states given by lists; does a state say so much under other numbers? -/
import Derived.Test.YtecmagdefllihaaEv
namespace Go.Proofs.Ytecmagdefllihaa
open Go.RowKit

def putsT : List (Nat × AV) → Tr AV
  | [] => .leaf
  | (k, v) :: l => (putsT l).put k (some v)

theorem putsT_get : ∀ (l : List (Nat × AV)) (t : Nat), (putsT l).get t = none ∨ ∃ v, (t, v) ∈ l ∧ (putsT l).get t = some v
  | [], t => .inl (Tr.get_leaf t)
  | (k, v) :: l, t => by
    unfold putsT
    rw [Tr.get_put']
    by_cases e : t = k
    · subst e
      rw [if_pos rfl]
      exact .inr ⟨v, List.mem_cons_self, rfl⟩
    · rw [if_neg e]
      exact (putsT_get l t).imp id fun ⟨x, h1, h2⟩ => ⟨x, List.mem_cons_of_mem _ h1, h2⟩

theorem hp_mem : ∀ {l : List (Nat × AObj)} {k : Nat} {x : AObj}, hp l k = some x → (k, x) ∈ l
  | [], _, _, h => by simp [hp] at h
  | (a, y) :: l, k, x, h => by
    simp only [hp] at h
    split at h
    · rename_i e
      injection h with h
      subst e h
      exact List.mem_cons_self
    · exact List.mem_cons_of_mem _ (hp_mem h)

/-- what a state shall say: closed temporaries, open ones, objects under the numbers 0, 1 .. -/
structure Goal where
  len : Nat
  tms : List (Nat × AV)
  opn : List (Nat × AV)
  objs : List (Nat × AObj)
  n : Nat

def Goal.st (G : Goal) : St := ⟨G.len, putsT (G.tms ++ G.opn), treeH G.objs, G.n⟩

def nodupB : List Nat → Bool
  | [] => true
  | x :: l => !l.contains x && nodupB l
theorem nodupB_ok : ∀ {l : List Nat}, nodupB l = true → l.Nodup
  | [], _ => List.nodup_nil
  | x :: l, h => by
    simp only [nodupB, Bool.and_eq_true, Bool.not_eq_true', List.contains_eq_mem, decide_eq_false_iff_not] at h
    exact List.nodup_cons.2 ⟨h.1, nodupB_ok h.2⟩

def goalOk (G : Goal) (ids : List Nat) (s : St) : Bool :=
  nodupB ids && ids.all (fun x => decide (x < s.nx)) && (G.len == s.len) && (G.n == ids.length) &&
  G.tms.all (fun p => (p.2.ren (renN ids s.nx)).same (tmF s p.1)) &&
  G.objs.all fun p => match heapF s.hp (renN ids s.nx p.1) with
    | some y => (p.2.ren (renN ids s.nx)).same y
    | none => false

def goalQ (G : Goal) (s : St) : List Prop := G.opn.map fun p => ∀ r, tmF s p.1 = p.2.ren r

theorem goal_ok {G : Goal} {ids : List Nat} {s : St} (h : goalOk G ids s = true) (hq : ∀ p ∈ goalQ G s, p) : Renum G.st s := by
  simp only [goalOk, Bool.and_eq_true, beq_iff_eq, List.all_eq_true, decide_eq_true_eq] at h
  obtain ⟨⟨⟨⟨⟨h1, h2⟩, h3⟩, h4⟩, h5⟩, h6⟩ := h
  refine ⟨h3, renN ids s.nx, renN_inj (nodupB_ok h1) h2, fun id hid => renN_fresh id (by rw [← h4]; exact hid), fun id x hx => ?_, fun t => ?_⟩
  · have hm := hp_mem ((congrFun (treeH_ok G.objs) id).symm.trans hx)
    have := h6 _ hm
    split at this
    · rename_i y hy
      rw [hy, AObj.same_ok this]
    · cases this
  · rcases putsT_get (G.tms ++ G.opn) t with h | ⟨v, hm, h⟩
    · left; simp [tmF, Goal.st, h]
    · right
      have e : tmF G.st t = v := by simp [tmF, Goal.st, h]
      rw [e]
      rcases List.mem_append.1 hm with hm | hm
      · exact (AV.same_ok (h5 _ hm)).symm
      · exact hq _ (List.mem_map.2 ⟨_, hm, rfl⟩) _

/-- one round: does it come to that? what is left to show -/
def roundQ (hs : Hints) (P : Program) (b : Code) (st : St) (G : Goal) (ids : List Nat) : Option (List Prop) :=
  match run hs P b st with
  | some (.normal, s, q) => if goalOk G ids s then some (q ++ goalQ G s) else none
  | _ => none

theorem roundQ_ok {hs : Hints} {P : Program} (hinl : InlOk P hs.inl) {b : Code} {st : St} {G : Goal} {ids : List Nat} {q : List Prop} (h : roundQ hs P b st G ids = some q) (hq : ∀ p ∈ q, p) : EvW P b st .normal G.st := by
  unfold roundQ at h
  split at h
  · rename_i s q1 h1
    split at h
    · rename_i hc
      injection h with h
      subst h
      exact (run_ok hinl _ _ _ _ _ h1 fun p hp => hq p (List.mem_append_left _ hp)).toW.renum (goal_ok hc fun p hp => hq p (List.mem_append_right _ hp))
    · cases h
  · cases h

def exitQ (hs : Hints) (P : Program) (b : Code) (st : St) (e : Nat) (G : Goal) (ids : List Nat) : Option (List Prop) :=
  match run hs P b st with
  | some (.exit k, s, q) => if k = e ∧ goalOk G ids s = true then some (q ++ goalQ G s) else none
  | _ => none

theorem exitQ_ok {hs : Hints} {P : Program} (hinl : InlOk P hs.inl) {b : Code} {st : St} {e : Nat} {G : Goal} {ids : List Nat} {q : List Prop} (h : exitQ hs P b st e G ids = some q) (hq : ∀ p ∈ q, p) : EvW P b st (.exit e) G.st := by
  unfold exitQ at h
  split at h
  · rename_i k s q1 h1
    split at h
    · rename_i hc
      injection h with h
      subst h
      rw [hc.1] at h1
      exact (run_ok hinl _ _ _ _ _ h1 fun p hp => hq p (List.mem_append_left _ hp)).toW.renum (goal_ok hc.2 fun p hp => hq p (List.mem_append_right _ hp))
    · cases h
  · cases h
end Go.Proofs.Ytecmagdefllihaa
