/- Lists of texts or of truth values among a law's arguments. -/
import Derived.Test.YtmilcpejchjleaaMxe
namespace Go.Proofs.Ytmilcpejchjleaa
open Go.RowKit

inductive RepLe : List AV → List AV → Prop where
  | nil : RepLe [] []
  | cons {a a' : AV} {l l' : List AV} (h : ∀ E w u, Rep E w a' u → Rep E w a u) (t : RepLe l l') : RepLe (a :: l) (a' :: l')
theorem RepLe.len {l l' : List AV} (h : RepLe l l') : l.length = l'.length := by
  induction h with
  | nil => rfl
  | cons _ _ ih => simp [ih]
theorem RepLe.get {l l' : List AV} (h : RepLe l l') : ∀ (k : Nat) a a', l[k]? = some a → l'[k]? = some a' → ∀ E w u, Rep E w a' u → Rep E w a u := by
  induction h with
  | nil => intro k a a' h1; simp at h1
  | cons h t ih =>
    intro k a a' h1 h2
    cases k with
    | zero =>
      simp only [List.getElem?_cons_zero, Option.some.injEq] at h1 h2
      subst h1 h2
      exact h
    | succ k => exact ih k a a' (by simpa using h1) (by simpa using h2)
theorem ACall.argsL {P : Program} {g : FuncId} {xs xs' : List AV} {L L' : List (Nat × AObj)} {nx n1 : Nat} {v : AV} (h : ACall P g xs L nx v L' n1) (hl : RepLe xs xs') : ACall P g xs' L nx v L' n1 :=
  h.args hl.len fun E w k a a' u h1 h2 r => hl.get k a a' h1 h2 E w u r
theorem sameA (a : AV) : ∀ E w u, Rep E w a u → Rep E w a u := fun _ _ _ h => h

theorem toVS (n : Nat) (g : Nat → List AV) (h : ∀ i, i < n → ∃ s : ByteArray, g i = [.val (.string s)]) : ∃ ls : List (List UInt8), ∀ E w u, Rep E w (.view 1 n g) u → Rep E w (vS ls) u := by
  refine ⟨(List.range n).map fun i => strB (g i), fun E w u r => ?_⟩
  have hn : ((List.range n).map fun i => strB (g i)).length = n := by simp
  unfold vS
  rw [hn]
  refine Rep.view_congr (fun i hi => ?_) r
  obtain ⟨s, hs⟩ := h i hi
  have e : ((List.range n).map fun i => strB (g i)).getD i [] = strB (g i) := by simp [List.getD_eq_getElem?_getD, hi]
  rw [e, hs]
  obtain ⟨⟨l⟩⟩ := s
  simp [strB, sStr]

def vB (tb : List Bool) : AV := .view 1 tb.length fun i => [.val (.bool (tb.getD i false))]
def bolB : List AV → Bool
  | [.val (.bool b)] => b
  | _ => false
theorem toVB (n : Nat) (g : Nat → List AV) (h : ∀ i, i < n → ∃ s : Bool, g i = [.val (.bool s)]) : ∃ tb : List Bool, ∀ E w u, Rep E w (.view 1 n g) u → Rep E w (vB tb) u := by
  refine ⟨(List.range n).map fun i => bolB (g i), fun E w u r => ?_⟩
  have hn : ((List.range n).map fun i => bolB (g i)).length = n := by simp
  unfold vB
  rw [hn]
  refine Rep.view_congr (fun i hi => ?_) r
  obtain ⟨s, hs⟩ := h i hi
  have e : ((List.range n).map fun i => bolB (g i)).getD i false = bolB (g i) := by simp [List.getD_eq_getElem?_getD, hi]
  rw [e, hs]
  rfl
end Go.Proofs.Ytmilcpejchjleaa
