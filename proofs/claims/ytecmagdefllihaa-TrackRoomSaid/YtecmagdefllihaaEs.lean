/- An engine for walks: states that forget, and what is the same. -/
import Derived.Test.YtecmagdefllihaaEo
namespace Go.Proofs.Ytecmagdefllihaa
open Go.RowKit

def keepG {α : Type} (t : Tr α) : List Nat → Tr α
  | [] => .leaf
  | i :: l => match t.get i with
    | some v => (keepG t l).put i (some v)
    | none => keepG t l

theorem keepG_get {α : Type} (t : Tr α) : ∀ (l : List Nat) (k : Nat), (keepG t l).get k = none ∨ (k ∈ l ∧ (keepG t l).get k = t.get k)
  | [], k => .inl (Tr.get_leaf k)
  | i :: l, k => by
    have ih := keepG_get t l k
    unfold keepG
    split
    · rename_i v hv
      rw [Tr.get_put']
      by_cases e : k = i
      · subst e
        rw [if_pos rfl]
        exact .inr ⟨List.mem_cons_self, hv.symm⟩
      · rw [if_neg e]
        exact ih.imp id fun h => ⟨List.mem_cons_of_mem _ h.1, h.2⟩
    · exact ih.imp id fun h => ⟨List.mem_cons_of_mem _ h.1, h.2⟩

/-- only these temporaries and objects stay; more numbers are spent -/
def St.trim (s : St) (ts ids : List Nat) (nx : Nat) : St := ⟨s.len, keepG s.tm ts, keepG s.hp ids, max s.nx nx⟩

/-- what the one state says the other says too -/
structure Less (s' s : St) : Prop where
  len : s'.len = s.len
  tm : ∀ t, tmF s' t = .any ∨ tmF s' t = tmF s t
  hp : ∀ id x, heapF s'.hp id = some x → heapF s.hp id = some x
  nx : s.nx ≤ s'.nx

theorem Less.refl (s : St) : Less s s := ⟨rfl, fun _ => .inr rfl, fun _ _ h => h, Nat.le_refl _⟩
theorem Less.trans {a b c : St} (x : Less a b) (y : Less b c) : Less a c :=
  ⟨x.len.trans y.len, fun t => (x.tm t).elim .inl fun h => (y.tm t).elim (fun h' => .inl (h.trans h')) fun h' => .inr (h.trans h'), fun id x' h => y.hp id x' (x.hp id x' h), Nat.le_trans y.nx x.nx⟩

theorem Less.trim (s : St) (ts ids : List Nat) (nx : Nat) : Less (s.trim ts ids nx) s := by
  refine ⟨rfl, fun t => ?_, fun id x h => ?_, Nat.le_max_left _ _⟩
  · rcases keepG_get s.tm ts t with h | ⟨_, h⟩
    · left; simp [tmF, St.trim, h]
    · right; simp [tmF, St.trim, h]
  · rcases keepG_get s.hp ids id with h' | ⟨_, h'⟩
    · simp [heapF, St.trim, h'] at h
    · simp only [heapF, St.trim, h'] at h
      exact h

def valSame : Value → Value → Bool
  | .bool a, .bool b => a == b
  | .int k a, .int k' b => decide (k = k') && decide (a = b)
  | .pointer none, .pointer none => true
  | .slice none 0 0, .slice none 0 0 => true
  | _, _ => false
theorem valSame_ok {u v : Value} (h : valSame u v = true) : u = v := by
  unfold valSame at h
  split at h
  · rw [beq_iff_eq] at h; rw [h]
  · simp only [Bool.and_eq_true, decide_eq_true_eq] at h; rw [h.1, h.2]
  · rfl
  · rfl
  · cases h

mutual
def AV.same : AV → AV → Bool
  | .val u, .val v => valSame u v
  | .ptr a b c, .ptr a' b' c' => a == a' && b == b' && c == c'
  | .sl a b c d, .sl a' b' c' d' => a == a' && b == b' && c == c' && d == d'
  | .agg l, .agg l' => sameL l l'
  | .tup l, .tup l' => sameL l l'
  | .any, .any => true
  | _, _ => false
def sameL : List AV → List AV → Bool
  | [], [] => true
  | x :: l, y :: l' => x.same y && sameL l l'
  | _, _ => false
end
mutual
theorem AV.same_ok : ∀ {x y : AV}, x.same y = true → x = y
  | .val u, y, h => by cases y <;> simp [AV.same] at h; rw [valSame_ok h]
  | .ptr .., y, h => by cases y <;> simp [AV.same] at h; simp [h]
  | .sl .., y, h => by cases y <;> simp [AV.same] at h; simp [h]
  | .agg l, y, h => by cases y <;> simp [AV.same] at h; rw [sameL_ok h]
  | .tup l, y, h => by cases y <;> simp [AV.same] at h; rw [sameL_ok h]
  | .any, y, h => by cases y <;> simp [AV.same] at h; rfl
  | .iptr _, y, h => by simp [AV.same] at h
  | .csl .., y, h => by simp [AV.same] at h
  | .bytes _, y, h => by simp [AV.same] at h
  | .view .., y, h => by simp [AV.same] at h
  | .fn .., y, h => by simp [AV.same] at h
theorem sameL_ok : ∀ {l l' : List AV}, sameL l l' = true → l = l'
  | [], l', h => by cases l' <;> simp [sameL] at h; rfl
  | x :: l, l', h => by
    cases l' with
    | nil => simp [sameL] at h
    | cons y l' =>
      simp only [sameL, Bool.and_eq_true] at h
      rw [AV.same_ok h.1, sameL_ok h.2]
end

def sameLL : List (List AV) → List (List AV) → Bool
  | [], [] => true
  | x :: l, y :: l' => sameL x y && sameLL l l'
  | _, _ => false
theorem sameLL_ok : ∀ {l l' : List (List AV)}, sameLL l l' = true → l = l'
  | [], l', h => by cases l' <;> simp [sameLL] at h; rfl
  | x :: l, l', h => by
    cases l' with
    | nil => simp [sameLL] at h
    | cons y l' =>
      simp only [sameLL, Bool.and_eq_true] at h
      rw [sameL_ok h.1, sameLL_ok h.2]

def AObj.same (a b : AObj) : Bool :=
  a.t == b.t && a.sz == b.sz && a.exact == b.exact && a.fz == b.fz && match a.body, b.body with
  | .rows l, .rows l' => sameLL l l'
  | .bytes l, .bytes l' => l == l'
  | _, _ => false
theorem AObj.same_ok {a b : AObj} (h : a.same b = true) : a = b := by
  obtain ⟨t, sz, ex, fz, body⟩ := a
  obtain ⟨t', sz', ex', fz', body'⟩ := b
  simp only [AObj.same, Bool.and_eq_true, beq_iff_eq] at h
  obtain ⟨⟨⟨⟨rfl, rfl⟩, rfl⟩, rfl⟩, h⟩ := h
  split at h
  · rw [sameLL_ok h]
  · rw [beq_iff_eq] at h
    rw [h]
  · cases h

/-- does s say what s' says, at these places? -/
def saysAt (s' s : St) (ts ids : List Nat) : Bool :=
  s'.len == s.len && decide (s.nx ≤ s'.nx) && (ts.all fun t => (tmF s' t).same (tmF s t)) && ids.all fun id =>
    match heapF s'.hp id, heapF s.hp id with
    | some x, some y => x.same y
    | none, _ => true
    | _, _ => false

theorem saysAt_ok {X s : St} {ts ids : List Nat} {nx : Nat} (h : saysAt (X.trim ts ids nx) s ts ids = true) : Less (X.trim ts ids nx) s := by
  simp only [saysAt, Bool.and_eq_true, beq_iff_eq, decide_eq_true_eq, List.all_eq_true] at h
  obtain ⟨⟨⟨h1, h2⟩, h3⟩, h4⟩ := h
  refine ⟨h1, fun t => ?_, fun id x hx => ?_, h2⟩
  · rcases keepG_get X.tm ts t with h | ⟨h, _⟩
    · left; simp [tmF, St.trim, h]
    · exact .inr (AV.same_ok (h3 t h))
  · rcases keepG_get X.hp ids id with h' | ⟨hm, _⟩
    · simp [heapF, St.trim, h'] at hx
    · have := h4 id hm
      rw [hx] at this
      split at this
      · rename_i x' y' e1 e2
        cases e1
        rw [e2, AObj.same_ok this]
      · rename_i e1; cases e1
      · cases this
end Go.Proofs.Ytecmagdefllihaa
