/- An engine for walks: a region whose order is open: each order that its edges allow comes to what the text's own order comes to. -/
import Derived.Test.YtecmagdefllihaaEk
namespace Go.Proofs.Ytecmagdefllihaa
open Go.RowKit

structure Rec where
  dst : Option Tmp
  v : AV
  us : List (Nat × Option AObj)
  nxb : Nat
  call : Bool
  looks : List Tmp
  ids : List Nat

def guardTmp (ops : Array Oper) (o : Oper) : List Tmp :=
  match o.guard with
  | none => []
  | some (j, _) => ((ops[j]?).bind (·.dst)).toList

def recStep (hs : Hints) (P : Program) (r : Nat) (ops : Array Oper) (base i : Nat) (tm : Nat → AV) (H : Heap) (nx : Nat) (o : Oper) : Option (Rec × List Prop) :=
  match wantedA (hs.gd r i) ops tm o with
  | some (true, q) =>
    match opStepF (hs.clAt r i) hs.inl P tm H nx (base + i) (hs.op r i) o with
    | some (f, q2) => some (⟨o.dst, f.v, f.us, f.nx, (isCall o).isSome, opTmps o ++ guardTmp ops o, rdSet H tm o (hs.op r i) ++ f.us.map (·.1)⟩, q ++ q2)
    | none => none
  | some (false, q) => some (⟨o.dst, .val undef, [], nx, false, guardTmp ops o, []⟩, q)
  | none => none

def runRec (hs : Hints) (P : Program) (r : Nat) (ops : Array Oper) (base : Nat) : List Oper → Nat → St → Option (List Rec × St × List Prop)
  | [], _, st => some ([], st, [])
  | o :: rest, i, st =>
    match recStep hs P r ops base i (tmF st) (heapF st.hp) st.nx o with
    | some (rc, q) =>
      match putL st o.dst rc.v with
      | some tm =>
        match runRec hs P r ops base rest (i + 1) ⟨st.len, tm, applyT st.hp rc.us, if rc.call then rc.nxb else st.nx⟩ with
        | some (l, s, q') => some (rc :: l, s, q ++ q')
        | none => none
      | none => none
    | none => none

/-- what must come up ahead of each: bits -/
def ancE (acc : List Nat) : List Edge → Nat
  | [] => 0
  | e :: es => if Region.binds .any e then 2 ^ e.on ||| acc.getD e.on 0 ||| ancE acc es else ancE acc es
def ancL : List Oper → List Nat → List Nat
  | [], acc => acc
  | o :: rest, acc => ancL rest (acc ++ [ancE acc o.after.toList])

/-- operations whose order is open do not meet: what is known of them beforehand -/
def statPair (anc : List Nat) (ops : Array Oper) (i j : Nat) (x y : Oper) : Bool :=
  let ok := (anc.getD i 0).testBit j || (anc.getD j 0).testBit i
  (match y.dst with | some t => !((opTmps x ++ guardTmp ops x).contains t) || ok | none => true) &&
  (match x.dst with | some t => y.dst != some t | none => true) &&
  (!((isCall x).isSome && (isCall y).isSome) || ok)

def allPairs (f : Nat → Oper → Nat → Oper → Bool) (ops : List (Nat × Oper)) : Bool := ops.all fun x => ops.all fun y => x.1 == y.1 || f x.1 x.2 y.1 y.2

def numbered (l : List Oper) : Nat → List (Nat × Oper) := fun i => match l with
  | [] => []
  | o :: rest => (i, o) :: numbered rest (i + 1)

def statOk (ops : Array Oper) : Bool :=
  ((List.range ops.size).all fun i => (ancL ops.toList []).getD i 0 < 2 ^ i) && allPairs (fun i x j y => statPair (ancL ops.toList []) ops i j x y) (numbered ops.toList 0)

/-- what is known when they are reckoned -/
def dynOk (anc : List Nat) (rs : List Rec) : Bool :=
  (List.range rs.length).all fun j =>
    match rs[j]? with
    | some y =>
      match y.us with
      | [] => true
      | us => (List.range rs.length).all fun i => i == j || (match rs[i]? with | some x => !(us.any fun u => x.ids.contains u.1) || (anc.getD i 0).testBit j || (anc.getD j 0).testBit i | none => false)
    | none => false

def apartOk (ops : Array Oper) (rs : List Rec) : Bool := statOk ops && dynOk (ancL ops.toList []) rs

section
variable (R : Nat → Rec) (X : Nat → Bool) (tm0 : Nat → AV) (H0 : Heap) (nx0 : Nat)
def tmAt : Nat → Nat → AV
  | 0, t => tm0 t
  | n + 1, t => if X n = true ∧ (R n).dst = some t then (R n).v else tmAt n t
def HAt : Nat → Heap
  | 0 => H0
  | n + 1 => if X n = true then applyU (HAt n) (R n).us else HAt n
def nxAt : Nat → Nat
  | 0 => nx0
  | n + 1 => if X n = true ∧ (R n).call = true then (R n).nxb else nxAt n
end

section
variable {R : Nat → Rec} {X Y : Nat → Bool} {tm0 : Nat → AV} {H0 : Heap} {nx0 : Nat}

theorem tmAt_eq : ∀ (n : Nat) (t : Nat), (∀ j, j < n → (R j).dst = some t → X j = Y j) → tmAt R X tm0 n t = tmAt R Y tm0 n t
  | 0, _, _ => rfl
  | n + 1, t, h => by
    simp only [tmAt]
    rw [tmAt_eq n t fun j hj => h j (by omega)]
    by_cases hd : (R n).dst = some t
    · rw [h n (by omega) hd]
    · simp [hd]

theorem HAt_eq : ∀ (n : Nat) (id : Nat), (∀ j, j < n → (∃ x, (id, x) ∈ (R j).us) → X j = Y j) → HAt R X H0 n id = HAt R Y H0 n id
  | 0, _, _ => rfl
  | n + 1, id, h => by
    have ih := HAt_eq n id fun j hj => h j (by omega)
    simp only [HAt]
    by_cases hd : ∃ x, (id, x) ∈ (R n).us
    · rw [h n (by omega) hd]
      split
      · exact applyU_dep _ _ _ _ (.inl hd)
      · exact ih
    · have key : ∀ K : Heap, applyU K (R n).us id = K id := fun K => by
        rcases applyU_cases (R n).us K id with ⟨x, h1, _⟩ | ⟨_, h2⟩
        · exact absurd ⟨x, h1⟩ hd
        · exact h2
      have : ∀ b : Bool, (if b = true then applyU (HAt R X H0 n) (R n).us else HAt R X H0 n) id = HAt R X H0 n id := fun b => by
        cases b
        · rfl
        · exact key _
      rw [this]
      have : ∀ b : Bool, (if b = true then applyU (HAt R Y H0 n) (R n).us else HAt R Y H0 n) id = HAt R Y H0 n id := fun b => by
        cases b
        · rfl
        · exact key _
      rw [this]
      exact ih

theorem nxAt_eq : ∀ (n : Nat), (∀ j, j < n → (R j).call = true → X j = Y j) → nxAt R X nx0 n = nxAt R Y nx0 n
  | 0, _ => rfl
  | n + 1, h => by
    simp only [nxAt]
    rw [nxAt_eq n fun j hj => h j (by omega)]
    by_cases hd : (R n).call = true
    · rw [h n (by omega) hd]
    · simp [hd]

/-- what comes behind does not matter where nothing of it has come up -/
theorem tmAt_skip {i : Nat} : ∀ (n : Nat) (t : Nat), i ≤ n → (∀ j, i ≤ j → j < n → (R j).dst = some t → X j = false) → tmAt R X tm0 n t = tmAt R X tm0 i t
  | 0, t, hi, _ => by rw [show i = 0 by omega]
  | n + 1, t, hi, h => by
    by_cases e : i = n + 1
    · rw [e]
    · simp only [tmAt]
      rw [if_neg (fun hc => by have := h n (by omega) (by omega) hc.2; rw [this] at hc; cases hc.1)]
      exact tmAt_skip n t (by omega) fun j h1 h2 => h j h1 (by omega)

theorem HAt_skip {i : Nat} : ∀ (n : Nat) (id : Nat), i ≤ n → (∀ j, i ≤ j → j < n → (∃ x, (id, x) ∈ (R j).us) → X j = false) → HAt R X H0 n id = HAt R X H0 i id
  | 0, id, hi, _ => by rw [show i = 0 by omega]
  | n + 1, id, hi, h => by
    by_cases e : i = n + 1
    · rw [e]
    · have ih := HAt_skip n id (by omega) fun j h1 h2 => h j h1 (by omega)
      simp only [HAt]
      split
      · rename_i hx
        rcases applyU_cases (R n).us (HAt R X H0 n) id with ⟨x, h1, _⟩ | ⟨_, h2⟩
        · have := h n (by omega) (by omega) ⟨x, h1⟩
          rw [this] at hx
          cases hx
        · rw [h2]; exact ih
      · exact ih

theorem nxAt_skip {i : Nat} : ∀ (n : Nat), i ≤ n → (∀ j, i ≤ j → j < n → (R j).call = true → X j = false) → nxAt R X nx0 n = nxAt R X nx0 i
  | 0, hi, _ => by rw [show i = 0 by omega]
  | n + 1, hi, h => by
    by_cases e : i = n + 1
    · rw [e]
    · simp only [nxAt]
      rw [if_neg (fun hc => by have := h n (by omega) (by omega) hc.2; rw [this] at hc; cases hc.1)]
      exact nxAt_skip n (by omega) fun j h1 h2 => h j h1 (by omega)

/-- one more has come up -/
theorem tmAt_add {i : Nat} (hY : ∀ j, Y j = (X j || j == i)) (hi : X i = false) : ∀ (n : Nat) (t : Nat), i < n → (∀ j, i < j → j < n → (R j).dst = some t → (R i).dst = some t → False) →
    tmAt R Y tm0 n t = if (R i).dst = some t then (R i).v else tmAt R X tm0 n t
  | 0, t, h, _ => by omega
  | n + 1, t, h, hd => by
    by_cases e : i = n
    · subst e
      simp only [tmAt, hY, hi]
      rw [tmAt_eq (X := Y) (Y := X) i t fun j hj _ => by rw [hY]; simp [show ¬ j = i by omega]]
      by_cases hc : (R i).dst = some t <;> simp [hc]
    · have ih := tmAt_add hY hi n t (by omega) fun j h1 h2 => hd j h1 (by omega)
      simp only [tmAt]
      rw [show Y n = X n by rw [hY]; simp [show ¬ n = i by omega], ih]
      by_cases hc : (R i).dst = some t
      · have : ¬ (R n).dst = some t := fun h' => hd n (by omega) (by omega) h' hc
        simp [hc, this]
      · simp [hc]

theorem HAt_add {i : Nat} (hY : ∀ j, Y j = (X j || j == i)) (hi : X i = false) : ∀ (n : Nat) (id : Nat), i < n → (∀ j, i < j → j < n → X j = true → (∃ x, (id, x) ∈ (R j).us) → (∃ x, (id, x) ∈ (R i).us) → False) →
    HAt R Y H0 n id = applyU (HAt R X H0 n) (R i).us id
  | 0, id, h, _ => by omega
  | n + 1, id, h, hd => by
    by_cases e : i = n
    · subst e
      simp only [HAt, hY, hi]
      simp only [beq_self_eq_true, Bool.or_true, if_true, Bool.false_eq_true, if_false]
      refine applyU_dep _ _ _ _ (.inr ?_)
      exact HAt_eq i id fun j hj _ => by rw [hY]; simp [show ¬ j = i by omega]
    · have ih := HAt_add hY hi n id (by omega) fun j h1 h2 => hd j h1 (by omega)
      have hYn : Y n = X n := by rw [hY]; simp [show ¬ n = i by omega]
      simp only [HAt]
      rw [hYn]
      by_cases hx : X n = true
      · rw [if_pos hx, if_pos hx]
        by_cases h1 : ∃ x, (id, x) ∈ (R n).us
        · have h2 : ¬ ∃ x, (id, x) ∈ (R i).us := fun h2 => hd n (by omega) (by omega) hx h1 h2
          rw [applyU_dep (R n).us (HAt R Y H0 n) (HAt R X H0 n) id (.inl h1)]
          rcases applyU_cases (R i).us (applyU (HAt R X H0 n) (R n).us) id with ⟨x, h3, _⟩ | ⟨_, h4⟩
          · exact absurd ⟨x, h3⟩ h2
          · exact h4.symm
        · have key : ∀ K : Heap, applyU K (R n).us id = K id := fun K => by
            rcases applyU_cases (R n).us K id with ⟨x, h3, _⟩ | ⟨_, h4⟩
            · exact absurd ⟨x, h3⟩ h1
            · exact h4
          rw [key, ih]
          exact applyU_dep _ _ _ _ (.inr (key _).symm)
      · rw [if_neg hx, if_neg hx]
        exact ih

theorem nxAt_add {i : Nat} (hY : ∀ j, Y j = (X j || j == i)) (hi : X i = false) : ∀ (n : Nat), i < n → (∀ j, i < j → j < n → X j = true → (R j).call = true → (R i).call = true → False) →
    nxAt R Y nx0 n = if (R i).call = true then (R i).nxb else nxAt R X nx0 n
  | 0, h, _ => by omega
  | n + 1, h, hd => by
    by_cases e : i = n
    · subst e
      simp only [nxAt, hY, hi]
      rw [nxAt_eq (X := Y) (Y := X) i fun j hj _ => by rw [hY]; simp [show ¬ j = i by omega]]
      by_cases hc : (R i).call = true <;> simp [hc]
    · have ih := nxAt_add hY hi n (by omega) fun j h1 h2 => hd j h1 (by omega)
      have hYn : Y n = X n := by rw [hY]; simp [show ¬ n = i by omega]
      simp only [nxAt]
      rw [hYn, ih]
      by_cases hc : (R i).call = true
      · by_cases hx : X n = true ∧ (R n).call = true
        · exact (hd n (by omega) (by omega) hx.1 hx.2 hc).elim
        · simp [hc, hx]
      · simp [hc]
end
end Go.Proofs.Ytecmagdefllihaa
