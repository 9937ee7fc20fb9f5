/- Sums of 16 bits, plainly: no program in sight. -/
namespace Go.Proofs.Ytoekncmggjhmjaa

/-- one's complement addition, as the Go text has it -/
def add16 (a b : Nat) : Nat := (a % 65536 + b % 65536) % 65536 + (a % 65536 + b % 65536) / 65536

def prs : Nat → List UInt8 → Nat
  | s, [] => s
  | s, [x] => add16 s (x.toNat * 256)
  | s, x :: y :: l => prs (add16 s (x.toNat * 256 + y.toNat)) l

def ofL (l : List UInt8) : Nat := 65535 - prs 0 l

def wsum : List UInt8 → Nat
  | [] => 0
  | [x] => x.toNat * 256
  | x :: y :: l => x.toNat * 256 + y.toNat + wsum l

theorem add16_le (a b : Nat) (ha : a ≤ 65535) (_hb : b ≤ 65535) : add16 a b ≤ 65535 := by unfold add16; omega
theorem add16_mod (a b : Nat) (ha : a ≤ 65535) (_hb : b ≤ 65535) : add16 a b % 65535 = (a + b) % 65535 := by unfold add16; omega
theorem add16_zero (a b : Nat) (ha : a ≤ 65535) (_hb : b ≤ 65535) : add16 a b = 0 ↔ a + b = 0 := by unfold add16; omega

theorem u8le (x : UInt8) : x.toNat ≤ 255 := by have := x.toNat_lt; omega

theorem prs_le : ∀ (l : List UInt8) (s : Nat), s ≤ 65535 → prs s l ≤ 65535
  | [], _, h => h
  | [x], s, h => add16_le _ _ h (by have := u8le x; omega)
  | x :: y :: l, s, h => prs_le l _ (add16_le _ _ h (by have := u8le x; have := u8le y; omega))

theorem prs_spec : ∀ (l : List UInt8) (s : Nat), s ≤ 65535 → prs s l % 65535 = (s + wsum l) % 65535 ∧ (prs s l = 0 ↔ s + wsum l = 0)
  | [], s, _ => by simp [prs, wsum]
  | [x], s, h => by
    have hx := u8le x
    exact ⟨add16_mod _ _ h (by omega), add16_zero _ _ h (by omega)⟩
  | x :: y :: l, s, h => by
    have hx := u8le x
    have hy := u8le y
    have h1 := add16_le s (x.toNat * 256 + y.toNat) h (by omega)
    have h2 := add16_mod s (x.toNat * 256 + y.toNat) h (by omega)
    have h3 := add16_zero s (x.toNat * 256 + y.toNat) h (by omega)
    obtain ⟨h4, h5⟩ := prs_spec l _ h1
    simp only [prs, wsum]
    refine ⟨by omega, ?_⟩
    omega

theorem ofL_le (l : List UInt8) : ofL l ≤ 65535 := by unfold ofL; omega

theorem ofL_zero (l : List UInt8) : ofL l = 0 ↔ wsum l % 65535 = 0 ∧ wsum l ≠ 0 := by
  have h := prs_spec l 0 (by omega)
  have h1 := prs_le l 0 (by omega)
  unfold ofL
  omega

theorem ofL_mod (l : List UInt8) : (wsum l + ofL l) % 65535 = 0 ∧ wsum l + ofL l ≠ 0 := by
  have h := prs_spec l 0 (by omega)
  have h1 := prs_le l 0 (by omega)
  unfold ofL
  omega

theorem wsum_append : ∀ (l m : List UInt8), l.length % 2 = 0 → wsum (l ++ m) = wsum l + wsum m
  | [], m, _ => by simp [wsum]
  | [x], m, h => by simp at h
  | x :: y :: l, m, h => by
    have := wsum_append l m (by simp at h; omega)
    simp only [List.cons_append, wsum, this]
    omega

def weight (i : Nat) : Nat := if i % 2 = 0 then 256 else 1

theorem wsum_set : ∀ (l : List UInt8) (i : Nat) (v x : UInt8), l[i]? = some x → wsum (l.set i v) + weight i * x.toNat = wsum l + weight i * v.toNat
  | [], i, v, x, h => by simp at h
  | [a], i, v, x, h => by
    match i, h with
    | 0, h => simp at h; subst h; simp [wsum, weight]; omega
    | i + 1, h => simp at h
  | a :: b :: l, i, v, x, h => by
    match i, h with
    | 0, h => simp at h; subst h; simp [wsum, weight]; omega
    | 1, h => simp at h; subst h; simp [wsum, weight]; omega
    | i + 2, h =>
      have := wsum_set l i v x (by simpa using h)
      have hw : weight (i + 2) = weight i := by simp [weight]
      simp only [List.set_cons_succ, wsum, hw]
      omega

theorem prs_append : ∀ (l m : List UInt8) (s : Nat), l.length % 2 = 0 → prs s (l ++ m) = prs (prs s l) m
  | [], m, s, _ => by simp [prs]
  | [x], m, s, h => by simp at h
  | x :: y :: l, m, s, h => by
    have := prs_append l m (add16 s (x.toNat * 256 + y.toNat)) (by simp at h; omega)
    simp only [List.cons_append, prs, this]

/-- one bit of a byte turned -/
theorem flip_nat : ∀ a, a < 256 → ∀ k, k < 8 → (a ^^^ 2 ^ k = a + 2 ^ k ∨ (a ^^^ 2 ^ k) + 2 ^ k = a) := by decide +kernel

theorem prs_two (s : Nat) (l : List UInt8) (j : Nat) (x y : UInt8) (hx : l[j]? = some x) (hy : l[j + 1]? = some y) :
    prs s (l.drop j) = prs (add16 s (x.toNat * 256 + y.toNat)) (l.drop (j + 2)) := by
  obtain ⟨h1, e1⟩ := List.getElem?_eq_some_iff.1 hx
  obtain ⟨h2, e2⟩ := List.getElem?_eq_some_iff.1 hy
  rw [List.drop_eq_getElem_cons h1, List.drop_eq_getElem_cons h2, e1, e2]
  rfl

theorem prs_one (s : Nat) (l : List UInt8) (j : Nat) (x : UInt8) (hx : l[j]? = some x) (hl : l.length = j + 1) :
    prs s (l.drop j) = add16 s (x.toNat * 256) := by
  obtain ⟨h1, e1⟩ := List.getElem?_eq_some_iff.1 hx
  rw [List.drop_eq_getElem_cons h1, List.drop_of_length_le (by omega), e1]
  rfl

/-- a number of big end first -/
def beN (l : List UInt8) : Nat := l.foldl (fun v x => v * 256 + x.toNat) 0
end Go.Proofs.Ytoekncmggjhmjaa
