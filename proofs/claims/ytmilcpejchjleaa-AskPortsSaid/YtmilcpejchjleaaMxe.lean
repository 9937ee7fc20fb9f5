/- Several texts in one: Xe0, XeRun, Xe, Fs. -/
import Derived.Test.YtmilcpejchjleaaMrf
import Derived.Test.YtmilcpejchjleaaJoin

/- Whether two lists of labels are one: words. -/
namespace Go.Proofs.Ytmilcpejchjleaa
open Go.RowKit

def eqG (a b : List (List UInt8)) (i : Nat) : GoalX := { len := 26, opn := [(0, vS a), (1, vS b), (5, sI i)] }
def eqE : GoalX := { len := 26 }
def eqN : GoalX := { len := 26, tms := [(4, .val (.bool false))] }
def eqL (a b : List (List UInt8)) : LoopX := { ids := [], G := eqG a b 0, ex := .exit 0, E := eqE }
def eqR (a b : List (List UInt8)) : LoopX := { ids := [], G := eqG a b 0, ex := .ret, E := eqN }
end Go.Proofs.Ytmilcpejchjleaa

/- Whether two lists of labels are one, reckoned. -/
namespace Go.Proofs.Ytmilcpejchjleaa
open Go.RowKit

set_option maxRecDepth 100000 in
theorem eq_len (a : List (List UInt8)) (b : List (List UInt8)) : outXS noneKnown [(44, { br := [(10, true)] })] Try.prog 44 [AV.view (1 : Nat) (List.length a) fun i => [AV.val (Value.string { data := List.toArray (List.getD a i []) })], AV.view (1 : Nat) (List.length b) fun i => [AV.val (Value.string { data := List.toArray (List.getD b i []) })]] [] 0 [] [] =
   some (AV.val (Value.bool false), [], 7,
   [((↑(List.length a) : Int) != (↑(List.length b) : Int)) = true]) := by kernel_rfl

set_option maxRecDepth 100000 in
theorem eq_yes (a : List (List UInt8)) (b : List (List UInt8)) : outXS noneKnown [(44, { br := [(10, false)] })] Try.prog 44 [AV.view (1 : Nat) (List.length a) fun i => [AV.val (Value.string { data := List.toArray (List.getD a i []) })], AV.view (1 : Nat) (List.length b) fun i => [AV.val (Value.string { data := List.toArray (List.getD b i []) })]] [] 0 [] [(4, eqL a b)] =
   some (AV.val (Value.bool true), [], 1,
   [((↑(List.length a) : Int) != (↑(List.length b) : Int)) = false,
   (AV.view (1 : Nat) (List.length a) fun i => [AV.val (Value.string { data := List.toArray (List.getD a i []) })]) = AV.view (1 : Nat) (List.length a) fun i => [AV.val (Value.string { data := List.toArray (List.getD a i []) })],
   (AV.view (1 : Nat) (List.length b) fun i => [AV.val (Value.string { data := List.toArray (List.getD b i []) })]) = AV.view (1 : Nat) (List.length b) fun i => [AV.val (Value.string { data := List.toArray (List.getD b i []) })],
   AV.val (Value.int IntKind.i64 (0 : Int)) = AV.val (Value.int IntKind.i64 (0 : Int)),
   EvXL Try.prog 0 (loopAt Try.prog 44 4) (GoalX.st (LoopX.G (eqL a b)) 0) (LoopX.ex (eqL a b)) (GoalX.st (LoopX.E (eqL a b)) 0)]) := by kernel_rfl

set_option maxRecDepth 100000 in
theorem eq_no (a : List (List UInt8)) (b : List (List UInt8)) : outXS noneKnown [(44, { br := [(10, false)] })] Try.prog 44 [AV.view (1 : Nat) (List.length a) fun i => [AV.val (Value.string { data := List.toArray (List.getD a i []) })], AV.view (1 : Nat) (List.length b) fun i => [AV.val (Value.string { data := List.toArray (List.getD b i []) })]] [] 0 [] [(4, eqR a b)] =
   some (AV.val (Value.bool false), [], 0,
   [((↑(List.length a) : Int) != (↑(List.length b) : Int)) = false,
   (AV.view (1 : Nat) (List.length a) fun i => [AV.val (Value.string { data := List.toArray (List.getD a i []) })]) = AV.view (1 : Nat) (List.length a) fun i => [AV.val (Value.string { data := List.toArray (List.getD a i []) })],
   (AV.view (1 : Nat) (List.length b) fun i => [AV.val (Value.string { data := List.toArray (List.getD b i []) })]) = AV.view (1 : Nat) (List.length b) fun i => [AV.val (Value.string { data := List.toArray (List.getD b i []) })],
   AV.val (Value.int IntKind.i64 (0 : Int)) = AV.val (Value.int IntKind.i64 (0 : Int)),
   EvXL Try.prog 0 (loopAt Try.prog 44 4) (GoalX.st (LoopX.G (eqR a b)) 0) (LoopX.ex (eqR a b)) (GoalX.st (LoopX.E (eqR a b)) 0)]) := by kernel_rfl

set_option maxRecDepth 100000 in
theorem eq_step (a : List (List UInt8)) (b : List (List UInt8)) (i : Nat) : stepXS noneKnown [(44, { br := [(14, true), (25, false)], ob := [(6, 2), (6, 6)] })] Try.prog 44 4 (eqG a b i) (eqG a b (i + (1 : Nat))) [] 0 [] =
   some (.normal,
   [decide ((↑i : Int) < (↑(List.length a) : Int)) = true,
   (0 : Int) ≤ (↑i : Int) ∧ (↑i : Int) < (↑(List.length a) : Int),
   (0 : Int) ≤ (↑i : Int) ∧ (↑i : Int) < (↑(List.length b) : Int),
   (!ByteArray.toList { data := List.toArray (List.getD a i []) } == ByteArray.toList { data := List.toArray (List.getD b i []) }) = false,
   (AV.view (1 : Nat) (List.length a) fun i => [AV.val (Value.string { data := List.toArray (List.getD a i []) })]) = AV.view (1 : Nat) (List.length a) fun i => [AV.val (Value.string { data := List.toArray (List.getD a i []) })],
   (AV.view (1 : Nat) (List.length b) fun i => [AV.val (Value.string { data := List.toArray (List.getD b i []) })]) = AV.view (1 : Nat) (List.length b) fun i => [AV.val (Value.string { data := List.toArray (List.getD b i []) })],
   AV.val (Value.int IntKind.i64 (IntKind.wrap IntKind.i64 ((↑i : Int) + (1 : Int)))) = AV.val (Value.int IntKind.i64 (↑(i + (1 : Nat)) : Int))]) := by kernel_rfl

set_option maxRecDepth 100000 in
theorem eq_b (a : List (List UInt8)) (b : List (List UInt8)) (i : Nat) : stepXS noneKnown [(44, { br := [(14, true), (25, true)], ob := [(6, 2), (6, 6)] })] Try.prog 44 4 (eqG a b i) (eqN) [] 0 [] =
   some (.ret,
   [decide ((↑i : Int) < (↑(List.length a) : Int)) = true,
   (0 : Int) ≤ (↑i : Int) ∧ (↑i : Int) < (↑(List.length a) : Int),
   (0 : Int) ≤ (↑i : Int) ∧ (↑i : Int) < (↑(List.length b) : Int),
   (!ByteArray.toList { data := List.toArray (List.getD a i []) } == ByteArray.toList { data := List.toArray (List.getD b i []) }) = true]) := by kernel_rfl

set_option maxRecDepth 100000 in
theorem eq_end (a : List (List UInt8)) (b : List (List UInt8)) (i : Nat) : stepXS noneKnown [(44, { br := [(14, false)] })] Try.prog 44 4 (eqG a b i) (eqE) [] 0 [] =
   some (.exit 0,
   [decide ((↑i : Int) < (↑(List.length a) : Int)) = false]) := by kernel_rfl
end Go.Proofs.Ytmilcpejchjleaa

/- Whether two lists of labels are one: what the law's function yields. -/
namespace Go.Proofs.Ytmilcpejchjleaa
open Go.RowKit
set_option linter.unusedSimpArgs false

theorem str_list (xs : List UInt8) : ByteArray.toList ⟨xs.toArray⟩ = xs := by rw [ByteArray.toList_eq]

theorem eq_loop (a b : List (List UInt8)) (hm : a.length ≤ 1000000000) (hab : a.length = b.length) : ∀ (x y : List (List UInt8)) (i : Nat), a.drop i = x → b.drop i = y → i ≤ a.length →
    EvXL Try.prog 0 (loopAt Try.prog 44 4) ((eqG a b i).st 0) (if x = y then .exit 0 else .ret) ((if x = y then eqE else eqN).st 0)
  | [], y, i, hx, hy, hil => by
    have hi : a.length ≤ i := by simpa using hx
    have e : y = [] := by rw [← hy, List.drop_of_length_le (by omega)]
    rw [if_pos e.symm, if_pos e.symm]
    exact EvXL.last (stepXS_ok noneKnown_ok (eq_end a b i) (by
      repeat' (first | exact allNil | refine allCons ?_ ?_ | (with_reducible refine allRp _ ?_ ?_))
      all_goals first | (with_reducible rfl) | exact decide_eq_false (by omega))) (by simp)
  | s :: r, [], i, hx, hy, hil => by
    obtain ⟨hi, hg, hr⟩ := dropStep hx
    have : b.length ≤ i := by simpa using hy
    omega
  | s :: r, t :: q, i, hx, hy, hil => by
    obtain ⟨hi, hg, hr⟩ := dropStep hx
    obtain ⟨hi', hg', hr'⟩ := dropStep hy
    by_cases h1 : s = t
    · have e : (s :: r = t :: q) = (r = q) := by simp [h1]
      simp only [e]
      refine EvXL.step (stepXS_ok noneKnown_ok (eq_step a b i) ?_) (eq_loop a b hm hab r q (i + 1) hr hr' (by omega))
      rw [hg, hg', str_list, str_list]
      repeat' (first | exact allNil | refine allCons ?_ ?_ | (with_reducible refine allRp _ ?_ ?_))
      all_goals first | (with_reducible rfl) | exact decide_eq_true (by omega) | exact sI_succ i (by omega) | omega | (simp [h1]; done)
    · have e : ¬ (s :: r = t :: q) := by simp [h1]
      rw [if_neg e, if_neg e]
      exact EvXL.last (stepXS_ok noneKnown_ok (eq_b a b i) (by
        rw [hg, hg', str_list, str_list]
        repeat' (first | exact allNil | refine allCons ?_ ?_ | (with_reducible refine allRp _ ?_ ?_))
        all_goals first | (with_reducible rfl) | exact decide_eq_true (by omega) | omega | (simp [h1]; done))) (by simp)

theorem exact_call (a b : List (List UInt8)) (hm : a.length ≤ 1000000000) (L : List (Nat × AObj)) (nx : Nat) : ACall Try.prog 44 [vS a, vS b] L nx (.val (.bool (decide (a = b)))) L nx := by
  have hx : ∀ r, renL r [vS a, vS b] = [vS a, vS b] := fun r => rfl
  by_cases hab : a.length = b.length
  · have h := eq_loop a b hm hab a b 0 rfl rfl (by omega)
    by_cases hg : a = b
    · rw [if_pos hg, if_pos hg] at h
      rw [decide_eq_true hg]
      refine (outXS_ok noneKnown_ok (eq_yes a b) ?_).lift hx L nx
      repeat' (first | exact allNil | refine allCons ?_ ?_ | (with_reducible refine allRp _ ?_ ?_))
      all_goals first | (with_reducible rfl) | rfl | exact h | (simp [hab]; done)
    · rw [if_neg hg, if_neg hg] at h
      rw [decide_eq_false hg]
      refine (outXS_ok noneKnown_ok (eq_no a b) ?_).lift hx L nx
      repeat' (first | exact allNil | refine allCons ?_ ?_ | (with_reducible refine allRp _ ?_ ?_))
      all_goals first | (with_reducible rfl) | rfl | exact h | (simp [hab]; done)
  · have hg : ¬ a = b := fun e => hab (by rw [e])
    rw [decide_eq_false hg]
    refine (outXS_ok noneKnown_ok (eq_len a b) ?_).lift hx L nx
    refine allCons ?_ allNil
    simp
    omega
end Go.Proofs.Ytmilcpejchjleaa

/- Rows that lead nowhere, told at a loop's head; lists of texts wherever they lie. -/
namespace Go.Proofs.Ytmilcpejchjleaa
open Go.RowKit

theorem HEqv.refl (H : Heap) : HEqv H H := fun _ => OEqv.refl _

/-- what code comes to may be told with its objects' rows called flat -/
theorem EvX.eqv {P : Program} {n0 : Nat} {c : Code} {st s s' : St} {ex : Ex} (h : EvX P n0 c st ex s) (hl : s'.len = s.len) (ht : s'.tm = s.tm) (hn : s'.nx = s.nx) (he : HEqv (heapF s.hp) (heapF s'.hp)) : EvX P n0 c st ex s' := by
  intro E0 H0 w0 s0 E a w hx hs hr hle Q hQ
  refine h E0 H0 w0 s0 E a w hx hs hr hle Q fun E' a' w' t0 t1 t2 t3 t4 => hQ E' a' w' (t0.eqv (HEqv.refl _) he) (hn ▸ t1.eqv he) ⟨t2.size.trans hl.symm, fun t => ?_⟩ t3 (by rw [hn]; exact t4)
  have := t2.rep t
  unfold tmF at this ⊢
  rw [ht]
  exact this
theorem EvX.eqv_in {P : Program} {n0 : Nat} {c : Code} {st st' s : St} {ex : Ex} (h : EvX P n0 c st ex s) (hl : st'.len = st.len) (ht : st'.tm = st.tm) (hn : st'.nx = st.nx) (he : HEqv (heapF st.hp) (heapF st'.hp)) : EvX P n0 c st' ex s := by
  intro E0 H0 w0 s0 E a w hx hs hr hle Q hQ
  refine h E0 H0 w0 s0 E a w (hx.eqv (HEqv.refl _) (fun i => (he i).symm)) (hn ▸ hs.eqv (fun i => (he i).symm)) ⟨hr.size.trans hl, fun t => ?_⟩ (by rw [← hn]; exact hle) Q hQ
  have := hr.rep t
  unfold tmF at this ⊢
  rw [← ht]
  exact this

def objFlat (t : TypeId) (sz : Nat) (l : List (List AV)) : AObj := ⟨t, sz, false, false, .flat l⟩
theorem objFlat_eqv (t : TypeId) (sz : Nat) (l : List (List AV)) : (objAppR t sz l).Eqv (objFlat t sz l) := ⟨rfl, rfl, rfl, rfl, rfl, fun _ _ => rfl⟩

def HLEqv : List (Nat × AObj) → List (Nat × AObj) → Prop
  | [], [] => True
  | (i, x) :: l, (j, y) :: k => i = j ∧ x.Eqv y ∧ HLEqv l k
  | _, _ => False
theorem HLEqv.hp : ∀ (l k : List (Nat × AObj)), HLEqv l k → HEqv (hp l) (hp k)
  | [], [], _ => fun _ => OEqv.refl _
  | (i, x) :: l, (j, y) :: k, h => by
    obtain ⟨rfl, h1, h2⟩ := h
    intro n
    have := HLEqv.hp l k h2 n
    unfold Go.Proofs.Ytmilcpejchjleaa.hp
    split
    · exact h1
    · exact this
  | [], _ :: _, h => h.elim
  | _ :: _, [], h => h.elim

/-- a goal's objects, told anew -/
theorem EvX.flat {P : Program} {n0 : Nat} {c : Code} {st : St} {ex : Ex} {G G' : GoalX} (h : EvX P n0 c st ex (G.st n0)) (hl : G'.len = G.len) (ht : G'.tms ++ G'.opn = G.tms ++ G.opn) (hk : G'.k = G.k) (ho : HLEqv (G.objs ++ G.oob) (G'.objs ++ G'.oob)) : EvX P n0 c st ex (G'.st n0) := by
  refine h.eqv hl ?_ ?_ ?_
  · show putsT _ = putsT _; rw [ht]
  · show n0 + _ = n0 + _; rw [hk]
  · show HEqv (heapF (treeH _)) (heapF (treeH _))
    rw [treeH_ok, treeH_ok]
    exact HLEqv.hp _ _ ho

def rowsL (es : List (List UInt8)) : List (List AV) := es.map fun e => [sStr e]
/-- the texts in rows -/
def txtL (l : List (List AV)) : List (List UInt8) := l.map strB
def txtP (l : List (List AV)) : Prop := ∀ e ∈ l, e = [sStr (strB e)]
theorem strB_s (s : List UInt8) : strB [sStr s] = s := by simp [strB, sStr]
theorem txtL_rows (es : List (List UInt8)) : txtL (rowsL es) = es := by
  unfold txtL rowsL
  rw [List.map_map]
  have : (strB ∘ fun e => [sStr e]) = id := by funext e; exact strB_s e
  rw [this, List.map_id]
theorem txtP_rows (es : List (List UInt8)) : txtP (rowsL es) := by
  intro e he
  obtain ⟨s, _, rfl⟩ := List.mem_map.1 he
  rw [strB_s]

/-- a list of texts, wherever it lies -/
def strsOf (H : Heap) : AV → Option (List (List UInt8) × Prop)
  | .view sz n f => some (lsOf (.view sz n f), .view sz n f = vS (lsOf (.view sz n f)))
  | .val v => some ([], v = .slice none 0 0)
  | .bytes xs => some ([], xs = [])
  | .sl id off n _ =>
    match H id with
    | some ob =>
      match ob.body with
      | .rows l => some (txtL ((l.drop off).take n), txtP ((l.drop off).take n) ∧ ob.sz = 1 ∧ off + n ≤ l.length)
      | .flat l => some (txtL ((l.drop off).take n), txtP ((l.drop off).take n) ∧ ob.sz = 1 ∧ off + n ≤ l.length)
      | _ => none
    | none => none
  | _ => none

theorem frs_txt {H : Heap} {id off n : Nat} {lim : Option Nat} {ob : AObj} {l : List (List AV)} (h : H id = some ob) (hb : ob.body = .rows l ∨ ob.body = .flat l) (q1 : txtP ((l.drop off).take n)) (q2 : ob.sz = 1) (q3 : off + n ≤ l.length) :
    Frs H (.sl id off n lim) (vS (txtL ((l.drop off).take n))) := by
  have hn : (txtL ((l.drop off).take n)).length = n := by simp [txtL]; omega
  have hg : ∀ i, i < n → l.getD (off + i) [] = [sStr ((txtL ((l.drop off).take n)).getD i [])] := by
    intro i hi
    have h1 : ((l.drop off).take n)[i]? = l[off + i]? := by rw [List.getElem?_take, if_pos hi, List.getElem?_drop]
    have h2 : l[off + i]? = some (l[off + i]'(by omega)) := List.getElem?_eq_getElem (by omega)
    have h3 := q1 _ (List.mem_of_getElem? (h1.trans h2))
    unfold txtL
    rw [List.getD_eq_getElem?_getD, List.getD_eq_getElem?_getD, List.getElem?_map, h1, h2]
    simp only [Option.getD_some, Option.map_some]
    exact h3
  have := Frs.rows (lim := lim) (off := off) (n := n) (g := fun i => [sStr ((txtL ((l.drop off).take n)).getD i [])]) h hb q3 (fun i hi => (hg i hi).symm) (fun i _ => by rw [q2]; rfl) (fun i _ r => rfl)
  rw [q2] at this
  unfold vS
  rw [hn]
  exact this

/-- lists of texts: what stands for them -/
theorem strs_frs {H : Heap} {x : AV} {ls : List (List UInt8)} {p : Prop} (hx : strsOf H x = some (ls, p)) (hp : p) : ∃ y, Frs H y (vS ls) ∧ ∀ E w u, Rep E w x u → Rep E w y u := by
  unfold strsOf at hx
  split at hx
  · rename_i sz n f
    simp only [Option.some.injEq, Prod.mk.injEq] at hx
    obtain ⟨rfl, rfl⟩ := hx
    generalize lsOf (.view sz n f) = z at *
    rw [hp]
    exact ⟨vS z, .free fun r => rfl, fun E w u h => h⟩
  · rename_i v'
    simp only [Option.some.injEq, Prod.mk.injEq] at hx
    obtain ⟨rfl, rfl⟩ := hx
    subst hp
    refine ⟨vS [], .free fun r => rfl, fun E w u h => ?_⟩
    rw [h.val_inv]
    exact .view (b := 0) (o := 0) (fun _ _ => undef) (Nat.le_refl _) (Nat.zero_le _) (fun h => absurd h (by simp)) (fun i h => absurd h (by simp)) (fun i j h => absurd h (by simp)) (fun i j a h => absurd h (by simp))
  · rename_i xs
    simp only [Option.some.injEq, Prod.mk.injEq] at hx
    obtain ⟨rfl, rfl⟩ := hx
    subst hp
    refine ⟨vS [], .free fun r => rfl, fun E w u h => ?_⟩
    cases h with
    | bytes hn hc hm hb =>
      rw [List.length_nil] at hn
      subst hn
      exact .view (b := 0) (o := 0) (fun _ _ => undef) (Nat.zero_le _) hm (fun h => absurd h (by simp)) (fun i h => absurd h (by simp)) (fun i j h => absurd h (by simp)) (fun i j a h => absurd h (by simp))
  · split at hx
    · rename_i ob hid
      split at hx
      · rename_i l hb
        simp only [Option.some.injEq, Prod.mk.injEq] at hx
        obtain ⟨rfl, rfl⟩ := hx
        exact ⟨_, frs_txt hid (.inl hb) hp.1 hp.2.1 hp.2.2, fun E w u h => h⟩
      · rename_i l hb
        simp only [Option.some.injEq, Prod.mk.injEq] at hx
        obtain ⟨rfl, rfl⟩ := hx
        exact ⟨_, frs_txt hid (.inr hb) hp.1 hp.2.1 hp.2.2, fun E w u h => h⟩
      · cases hx
    · cases hx
  · cases hx

/-- a function of a list of texts that yields a plain value does so wherever the list lies -/
theorem plain_of {P : Program} {g : FuncId} {v : List (List UInt8) → Value} {K : List (List UInt8) → Prop} (hc : ∀ ls, K ls → ACall P g [vS ls] [] 0 (.val (v ls)) [] 0)
    {L : List (Nat × AObj)} {nx : Nat} {x : AV} {ls : List (List UInt8)} {p : Prop} (hx : strsOf (hp L) x = some (ls, p)) (hp : p) (hk : K ls) (hlt : L.all (fun q => decide (q.1 < nx)) = true) : ACall P g [x] L nx (.val (v ls)) L nx := by
  obtain ⟨y, hf, hr⟩ := strs_frs hx hp
  have h1 : ACall P g [y] L nx (.val (v ls)) L nx := by
    have := (hc ls hk).fresh' (L := L) (nx := nx) (by rfl) (by rfl) (FrsL.cons hf FrsL.nil) hlt
    simpa [AV.ren, renH] using this
  refine h1.args rfl fun E w k a a' u h1 h2 h3 => ?_
  cases k with
  | zero =>
    simp only [List.getElem?_cons_zero, Option.some.injEq] at h1 h2
    subst h1 h2
    exact hr _ _ _ h3
  | succ k => simp at h1

/-- such a function, known -/
def kPlain (f : FuncId) (v : List (List UInt8) → Value) (K : List (List UInt8) → Prop) : Inl := fun g xs L nx =>
  if g = f then
    match xs with
    | [x] =>
      match strsOf (hp L) x with
      | some (ls, p) => if L.all (fun q => decide (q.1 < nx)) = true then some (.val (v ls), L, nx, [p, K ls]) else none
      | none => none
    | _ => none
  else none
theorem kPlain_ok {P : Program} {f : FuncId} {v : List (List UInt8) → Value} {K : List (List UInt8) → Prop} (hc : ∀ ls, K ls → ACall P f [vS ls] [] 0 (.val (v ls)) [] 0) : InlOk P (kPlain f v K) := by
  intro g xs L nx w L' nx' q h hq
  unfold kPlain at h
  split at h
  · rename_i hg
    subst hg
    split at h
    · rename_i x
      split at h
      · rename_i ls p hx
        split at h
        · rename_i hlt
          simp only [Option.some.injEq, Prod.mk.injEq] at h
          obtain ⟨rfl, rfl, rfl, rfl⟩ := h
          exact ⟨plain_of hc hx (hq _ (List.mem_cons_self ..)) (hq _ (List.mem_cons_of_mem _ (List.mem_cons_self ..))) hlt, Nat.le_refl _⟩
        · cases h
      · cases h
    · cases h
  · cases h
end Go.Proofs.Ytmilcpejchjleaa
