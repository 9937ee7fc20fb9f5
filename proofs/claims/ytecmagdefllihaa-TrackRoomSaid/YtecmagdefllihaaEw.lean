/- An engine for walks: arrays and structs that are compared. -/
import Derived.Test.YtecmagdefllihaaEr
import Derived.Laws.StructEq
import Derived.ChangeKeysEq
namespace Go.Proofs.Ytecmagdefllihaa
open Go.RowKit

def eqIs (P : Program) (f : AV → AV → Option Bool) (e es : Nat) (l1 l2 : List AV) : List Nat → Option Bool
  | [] => some true
  | i :: is =>
    match partA P e l1 (i * es), partA P e l2 (i * es) with
    | some a, some b => match f a b, eqIs P f e es l1 l2 is with
      | some r, some r' => some (r && r')
      | _, _ => none
    | _, _ => none

def eqFs (P : Program) (f : TypeId → AV → AV → Option Bool) (l1 l2 : List AV) : List Field → Option Bool
  | [] => some true
  | x :: fs =>
    if x.name = "_" then none else
    match partA P x.type l1 x.offset, partA P x.type l2 x.offset with
    | some a, some b => match f x.type a b, eqFs P f l1 l2 fs with
      | some r, some r' => some (r && r')
      | _, _ => none
    | _, _ => none

/-- are two values of a type equal? -/
def eqA (P : Program) : Nat → TypeId → AV → AV → Option Bool
  | 0, _, _, _ => none
  | n + 1, t, x, y =>
    match P.underlying t with
    | some (.int _) => match x, y with
      | .val (.int k a), .val (.int k' b) => if k = k' then some (a == b) else none
      | _, _ => none
    | some .bool => match x, y with
      | .val (.bool a), .val (.bool b) => some (a == b)
      | _, _ => none
    | some .string => match x, y with
      | .val (.string a), .val (.string b) => some (a.toList == b.toList)
      | _, _ => none
    | some (.array m e) =>
      match aggCells x, aggCells y, szT P e with
      | some l1, some l2, some es => eqIs P (eqA P n e) e es l1 l2 (List.range m)
      | _, _, _ => none
    | some (.struct fs) =>
      match aggCells x, aggCells y with
      | some l1, some l2 => if P.stoodInHeld t then none else eqFs P (eqA P n) l1 l2 fs.toList
      | _, _ => none
    | _ => none

section
variable {P : Program} {E : Env} {H : Heap} {w : World} {a : Act} {o : Oper} {nx rid : Nat} {tm : Nat → AV}

theorem szT_cells {t : TypeId} {n : Nat} (h : szT P t = some n) : P.cellsOf t = n ∧ ∃ i, P.info? t = some i := by
  unfold szT at h
  obtain ⟨i, h1, h2⟩ := Option.map_eq_some_iff.1 h
  exact ⟨by simp [Program.cellsOf, h1, h2], i, h1⟩

theorem eqA_ok : ∀ (n d : Nat) (t : TypeId) (x y : AV) (B : Bool) (u v : Value), eqA P n t x y = some B → Rep E w x u → Rep E w y v → (Op.equalIn (d + n) t u v).run P w = .ok B w
  | 0, _, _, _, _, _, _, _, h, _, _ => by cases h
  | n + 1, d, t, x, y, B, u, v, h, rx, ry => by
    simp only [eqA] at h
    split at h
    · rename_i q ht
      split at h
      · rename_i k a k' b
        split at h
        · rename_i hk
          subst hk
          injection h with h
          subst h
          rw [rx.val_inv, ry.val_inv]
          exact run_equalIn_int w (d + n) t k q a b ht
        · cases h
      · cases h
    · rename_i ht
      split at h
      · injection h with h
        subst h
        rw [rx.val_inv, ry.val_inv]
        exact run_equalIn_bool' w (d + n) t _ _ ht
      · cases h
    · rename_i ht
      split at h
      · injection h with h
        subst h
        rw [rx.val_inv, ry.val_inv]
        exact run_equalIn_string w (d + n) t _ _ ht
      · cases h
    · rename_i m e ht
      split at h
      · rename_i l1 l2 es h1 h2 h3
        obtain ⟨hc, i, hi⟩ := szT_cells h3
        obtain ⟨xs, rfl, x1, x2⟩ := aggCells_rep h1 rx
        obtain ⟨ys, rfl, y1, y2⟩ := aggCells_rep h2 ry
        show (Op.equalIn ((d + n) + 1) t (.agg xs) (.agg ys)).run P w = _
        rw [run_equalIn_array w (d + n) xs ys ht hi, hc]
        have key : ∀ (is : List Nat) (B : Bool), eqIs P (eqA P n e) e es l1 l2 is = some B → (Op.eqItems (d + n) e es xs ys is).run P w = .ok B w := by
          intro is
          induction is with
          | nil => intro B h; simp only [eqIs, Option.some.injEq] at h; subst h; simp [Op.eqItems]
          | cons i is ih =>
            intro B h
            simp only [eqIs] at h
            split at h
            · rename_i a b ha hb
              split at h
              · rename_i r r' g1 g2
                injection h with h
                subst h
                obtain ⟨u1, k1, k2⟩ := part_run ha x1 x2
                obtain ⟨u2, k3, k4⟩ := part_run hb y1 y2
                have k5 := eqA_ok n d e a b r u1 u2 g1 k2 k4
                simp only [Op.eqItems, Sem.run_bind, k1, k3, k5, Result.andThen_ok]
                cases r
                · simp
                · simpa using ih r' g2
              · cases h
            · cases h
        exact key _ _ h
      · cases h
    · rename_i fs ht
      split at h
      · rename_i l1 l2 h1 h2
        split at h
        · cases h
        · rename_i hst
          obtain ⟨xs, rfl, x1, x2⟩ := aggCells_rep h1 rx
          obtain ⟨ys, rfl, y1, y2⟩ := aggCells_rep h2 ry
          have hfs : P.fieldsOf t = fs := by simp [Program.fieldsOf, ht]
          show (Op.equalIn ((d + n) + 1) t (.agg xs) (.agg ys)).run P w = _
          rw [run_equalIn_struct w (d + n) t xs ys (by rw [hfs]; exact ht) (by simpa using hst), hfs]
          have key : ∀ (gs : List Field) (B : Bool), eqFs P (eqA P n) l1 l2 gs = some B → (Op.eqFields (d + n) xs ys gs).run P w = .ok B w := by
            intro gs
            induction gs with
            | nil => intro B h; simp only [eqFs, Option.some.injEq] at h; subst h; simp [Op.eqFields]
            | cons g gs ih =>
              intro B h
              simp only [eqFs] at h
              split at h
              · cases h
              · rename_i hn
                split at h
                · rename_i a b ha hb
                  split at h
                  · rename_i r r' g1 g2
                    injection h with h
                    subst h
                    obtain ⟨u1, k1, k2⟩ := part_run ha x1 x2
                    obtain ⟨u2, k3, k4⟩ := part_run hb y1 y2
                    have k5 := eqA_ok n d g.type a b r u1 u2 g1 k2 k4
                    simp only [Op.eqFields, hn, ne_eq, not_false_eq_true, if_true, Sem.run_bind, k1, k3, k5, Result.andThen_ok]
                    cases r
                    · simp
                    · simpa using ih r' g2
                  · cases h
                · cases h
          exact key _ _ h
      · cases h
    · cases h

/-- structs and arrays that are compared -/
def eqAgg (P : Program) (tm : Nat → AV) (ty : TypeId) (x y : Operand) : Option Bool :=
  match P.underlying ty with
  | some (.struct _) => if P.eqGuardType P.depth ty then none else eqA P 12 ty (avOf tm x) (avOf tm y)
  | some (.array _ _) => if P.eqGuardType P.depth ty then none else eqA P 12 ty (avOf tm x) (avOf tm y)
  | _ => none

theorem eqA_agg {n : Nat} {t : TypeId} {x y : AV} {B : Bool} (hu : (∃ fs, P.underlying t = some (.struct fs)) ∨ ∃ m e, P.underlying t = some (.array m e)) (he : eqA P (n + 1) t x y = some B) : (∃ l, aggCells x = some l) ∧ ∃ l, aggCells y = some l := by
  simp only [eqA] at he
  rcases hu with ⟨fs, hu⟩ | ⟨m, e, hu⟩ <;> rw [hu] at he <;> simp only at he <;> split at he
  · rename_i g1 g2; exact ⟨⟨_, g1⟩, _, g2⟩
  · cases he
  · rename_i g1 g2 _; exact ⟨⟨_, g1⟩, _, g2⟩
  · cases he

theorem eqAgg_ok {ty : TypeId} {x y : Operand} {B : Bool} (r : RepT E w tm a) (h : eqAgg P tm ty x y = some B) : ∃ xs ys, a.eval x = .agg xs ∧ a.eval y = .agg ys ∧ P.eqGuardType P.depth ty = false ∧ (Op.equalIn 10000 ty (.agg xs) (.agg ys)).run P w = .ok B w := by
  have key : P.eqGuardType P.depth ty = false → (isAgg : (∃ fs, P.underlying ty = some (.struct fs)) ∨ ∃ m e, P.underlying ty = some (.array m e)) → eqA P 12 ty (avOf tm x) (avOf tm y) = some B →
      ∃ xs ys, a.eval x = .agg xs ∧ a.eval y = .agg ys ∧ P.eqGuardType P.depth ty = false ∧ (Op.equalIn 10000 ty (.agg xs) (.agg ys)).run P w = .ok B w := by
    intro hg hu he
    have h1 := eqA_ok 12 9988 ty _ _ B _ _ he (r.eval x) (r.eval y)
    have := eqA_agg (n := 11) hu he
    obtain ⟨⟨l1, e1⟩, l2, e2⟩ := this
    obtain ⟨xs, hx, _⟩ := aggCells_rep e1 (r.eval x)
    obtain ⟨ys, hy, _⟩ := aggCells_rep e2 (r.eval y)
    rw [hx, hy] at h1
    exact ⟨xs, ys, hx, hy, hg, h1⟩
  unfold eqAgg at h
  split at h
  · rename_i fs hu
    split at h
    · cases h
    · rename_i hg
      exact key (by simpa using hg) (.inl ⟨fs, hu⟩) h
  · rename_i m e hu
    split at h
    · cases h
    · rename_i hg
      exact key (by simpa using hg) (.inr ⟨m, e, hu⟩) h
  · cases h

theorem ok_eqAgg {neg : Bool} {ty : TypeId} {x y : Operand} {tr : TypeId} {B : Bool} (s : Sat E nx H w) (r : RepT E w tm a) (h : o.op = .binOp (if neg then .neq else .eql) ty x y tr) (hc : eqAgg P tm ty x y = some B) : OpOk P o E H a w rid nx ⟨.val (.bool (if neg then !B else B)), [], nx⟩ := by
  obtain ⟨xs, ys, hx, hy, hg, he⟩ := eqAgg_ok r hc
  refine ok_val (u := .bool (if neg then !B else B)) s ?_ (.val _)
  have h1 := run_eqGuard_agg (P := P) w (if neg then .neq else .eql) ty x y xs ys hg
  cases neg
  · simp [execOp, h, hx, hy]
    simp only [Bool.false_eq_true, if_false] at h1
    rw [h1]
    simp [run_eql_struct, he]
  · simp [execOp, h, hx, hy]
    simp only [if_true] at h1
    rw [h1]
    simp [run_neq_struct, he]
end
end Go.Proofs.Ytecmagdefllihaa
