/- Messages among a law's arguments. -/
import Derived.Test.YtmilcpejchjleaaDt0
import Derived.Test.YtmilcpejchjleaaBw
import Derived.Test.YtmilcpejchjleaaOp
namespace Go.Proofs.Ytmilcpejchjleaa
open Go.RowKit

theorem Rep.view_le {E : Env} {w : World} {sz n : Nat} {g g' : Nat → List AV} {u : Value} (h : ∀ i, i < n → RepLe (g' i) (g i)) (r : Rep E w (.view sz n g) u) : Rep E w (.view sz n g') u := by
  cases r with
  | view cells hc hm hA hl hcell hr =>
    refine .view cells hc hm hA (fun i hi => (h i hi).len.trans (hl i hi)) hcell (fun i j a hi ha => ?_)
    have hj : j < (g i).length := by rw [← (h i hi).len]; exact (List.getElem?_eq_some_iff.1 ha).1
    exact (h i hi).get j a _ ha (List.getElem?_eq_getElem hj) _ _ _ (hr i j _ hi (List.getElem?_eq_getElem hj))

/-- rows of a kind, each of them less told, are a list of that kind -/
theorem RTyW.ofArg {α : Type} (R : RTyW α) (P : α → Prop) (h0 : P R.R.d) (n : Nat) (g : Nat → List AV) (h : ∀ i, i < n → ∃ a : α, P a ∧ RepLe (R.R.row a) (g i)) : ∃ l : List α, (∀ i, P (l.getD i R.R.d)) ∧ ∀ E w u, Rep E w (.view R.R.sz n g) u → Rep E w (R.vv l) u := by
  let f : Nat → α := fun i => if hi : i < n then Classical.choose (h i hi) else R.R.d
  have hf : ∀ i, i < n → P (f i) ∧ RepLe (R.R.row (f i)) (g i) := fun i hi => by
    show P (if hi : i < n then Classical.choose (h i hi) else R.R.d) ∧ RepLe (R.R.row (if hi : i < n then Classical.choose (h i hi) else R.R.d)) (g i)
    rw [dif_pos hi]
    exact Classical.choose_spec (h i hi)
  have hg : ∀ i, i < n → ((List.range n).map f).getD i R.R.d = f i := fun i hi => by simp [List.getD_eq_getElem?_getD, hi]
  refine ⟨(List.range n).map f, fun i => ?_, fun E w u r => ?_⟩
  · by_cases hi : i < n
    · rw [hg i hi]; exact (hf i hi).1
    · rw [List.getD_eq_getElem?_getD, List.getElem?_eq_none (by simp; omega)]; exact h0
  · rw [R.hv]
    unfold RTy.v
    have hn : ((List.range n).map f).length = n := by simp
    rw [hn]
    exact Rep.view_le (fun i hi => by rw [hg i hi]; exact (hf i hi).2) r

def lfQ : List Leaf := [.sl [.str], .int .i64, .int .i64]
def lfR : List Leaf := [.sl [.str], .int .i64, .int .i64, .int .u32, .bytes]
def LfRow (l : List Leaf) (r : List AV) : Prop := r.length = l.length ∧ ∀ (k : Nat) lf a, l[k]? = some lf → r[k]? = some a → LeafOk lf a
theorem leaf_names {a : AV} (h : LeafOk (.sl [.str]) a) : ∃ ls : List (List UInt8), ∀ E w u, Rep E w a u → Rep E w (vS ls) u := by
  cases h with
  | sl h1 h2 =>
    exact toVS _ _ fun i hi => by
      obtain ⟨s, _, hs⟩ := leaf_str (h1 i hi) (fun j lf a hj ha => h2 i j lf a hi hj ha)
      exact ⟨s, hs⟩
theorem leaf_q {r : List AV} (h : LfRow lfQ r) : ∃ q : DQ, True ∧ RepLe (WQ.R.row q) r := by
  obtain ⟨hn, hl⟩ := h
  match r, hn with
  | [x, y, z], _ =>
    obtain ⟨ls, h0⟩ := leaf_names (hl 0 _ x rfl rfl)
    have h1 := hl 1 _ y rfl rfl
    have h2 := hl 2 _ z rfl rfl
    cases h1 with
    | int w1 =>
      cases h2 with
      | int w2 => exact ⟨⟨ls, _, _⟩, True.intro, .cons h0 (.cons (sameA _) (.cons (sameA _) .nil))⟩
theorem leaf_r {r : List AV} (h : LfRow lfR r) : ∃ q : DR, (0 ≤ q.ttl ∧ q.ttl ≤ 4294967295) ∧ RepLe (WR.R.row q) r := by
  obtain ⟨hn, hl⟩ := h
  match r, hn with
  | [x, y, z, t, d], _ =>
    obtain ⟨ls, h0⟩ := leaf_names (hl 0 _ x rfl rfl)
    have h1 := hl 1 _ y rfl rfl
    have h2 := hl 2 _ z rfl rfl
    have h3 := hl 3 _ t rfl rfl
    have h4 := hl 4 _ d rfl rfl
    cases h1 with
    | int w1 =>
      cases h2 with
      | int w2 =>
        cases h3 with
        | int w3 =>
          cases h4 with
          | bytes xs =>
            have hz : ∀ z : Int, (Lit.int .u32 z).wf = true → 0 ≤ z ∧ z ≤ 4294967295 := fun z h => by
              have := wf_u32 h
              omega
            exact ⟨⟨ls, _, _, _, xs⟩, hz _ w3, .cons h0 (.cons (sameA _) (.cons (sameA _) (.cons (sameA _) (.cons (sameA _) .nil))))⟩

theorem toVQ (n : Nat) (g : Nat → List AV) (h : ∀ i, i < n → LfRow lfQ (g i)) : ∃ l : List DQ, ∀ E w u, Rep E w (.view 3 n g) u → Rep E w (vQ l) u := by
  obtain ⟨l, _, hl⟩ := WQ.ofArg (fun _ => True) True.intro n g fun i hi => leaf_q (h i hi)
  exact ⟨l, hl⟩
theorem toVR (n : Nat) (g : Nat → List AV) (h : ∀ i, i < n → LfRow lfR (g i)) : ∃ l : List DR, ttlK l ∧ ∀ E w u, Rep E w (.view 5 n g) u → Rep E w (vR l) u := by
  obtain ⟨l, h1, hl⟩ := WR.ofArg (fun q => 0 ≤ q.ttl ∧ q.ttl ≤ 4294967295) (by decide) n g fun i hi => leaf_r (h i hi)
  exact ⟨l, h1, hl⟩

end Go.Proofs.Ytmilcpejchjleaa
