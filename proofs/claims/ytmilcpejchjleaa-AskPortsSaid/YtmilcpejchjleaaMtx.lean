/- Several texts in one: Tx0, TxRun, Tx. -/
import Derived.Test.YtmilcpejchjleaaMxe

/- A name's text: words, label and Join as known functions. -/
namespace Go.Proofs.Ytmilcpejchjleaa
open Go.RowKit

def kLab : Inl := fun g xs L nx =>
  if g = 84 then
    match xs with
    | [x] => some (sStr (escL (strB [x])), L, nx, [x = sStr (strB [x]), (strB [x]).length ≤ 1000000])
    | _ => none
  else none
theorem kLab_ok : InlOk Try.prog kLab := by
  intro g xs L nx v L' nx' q h hq
  unfold kLab at h
  split at h
  · rename_i hg
    subst hg
    split at h
    · rename_i x
      simp only [Option.some.injEq, Prod.mk.injEq] at h
      obtain ⟨rfl, rfl, rfl, rfl⟩ := h
      have h1 := hq _ (List.mem_cons_self ..)
      have h2 := hq _ (List.mem_cons_of_mem _ (List.mem_cons_self ..))
      refine ⟨?_, Nat.le_refl _⟩
      have h3 := label_call (strB [x]) h2 L nx
      rw [← h1] at h3
      exact h3
    · cases h
  · cases h

/-- Join of a list whose length is open -/
def joinW (es : List (List UInt8)) (sep : ByteArray) : List UInt8 := Lib.join es sep.data.toList
def kJoinO : Inl := fun g xs L nx =>
  if g = 85 then
    match xs with
    | [.sl id 0 n _, .val (.string sep)] =>
      match hp L id with
      | some ob =>
        match ob.body with
        | .flat l =>
          some (sStr (joinW (txtL l) sep), L, nx, [ob.sz = 1, 0 < n, n = l.length, txtP l, n ≤ 1000000000, (joinW (txtL l) sep).length ≤ 140737488355328])
        | _ => none
      | none => none
    | _ => none
  else none
theorem kJoinO_ok : InlOk Try.prog kJoinO := by
  intro g xs L nx v L' nx' q h hq
  unfold kJoinO at h
  split at h
  · rename_i hg
    subst hg
    split at h
    · rename_i id n lim sep
      split at h
      · rename_i ob hid
        split at h
        · rename_i l hb
          simp only [Option.some.injEq, Prod.mk.injEq] at h
          obtain ⟨rfl, rfl, rfl, rfl⟩ := h
          simp only [List.forall_mem_cons, List.not_mem_nil, false_implies, implies_true, and_true] at hq
          obtain ⟨q1, q2, q3, q4, q5, q6⟩ := hq
          obtain ⟨m, rfl⟩ : ∃ m, n = m + 1 := ⟨n - 1, by omega⟩
          have et : ((l.drop 0).take (m + 1)) = l := by rw [List.drop_zero, List.take_of_length_le (by omega)]
          have es : txtL l = ((l.drop 0).take (m + 1)).map fun e => (strOf e).data.toList := by
            rw [et]
            unfold txtL
            refine List.map_congr_left fun e he => ?_
            rw [q4 e he, strB_s]
            simp [strOf, sStr]
          refine ⟨?_, Nat.le_refl _⟩
          unfold joinW at q6 ⊢
          rw [es] at q6 ⊢
          refine ACall.plain fun E w vs hs hr => ?_
          have hs1 : Sat E nx (hp [(id, ob)]) w := hs.sub fun i x hx => by
            simp only [hp] at hx
            split at hx
            · rename_i e; subst e; rw [hid]; exact hx
            · cases hx
          have hs2 : Sat E nx (hp [(id, ob.unflat)]) w := hs1.eqv (HLEqv.hp [(id, ob)] [(id, ob.unflat)] ⟨rfl, AObj.unflat_eqv _, trivial⟩)
          have hb2 : ob.unflat.body = .rows l := by
            obtain ⟨t, sz, ex, fz, body⟩ := ob
            simp only at hb
            subst hb
            rfl
          have hz2 : ob.unflat.sz = 1 := by rw [← q1]; exact (AObj.unflat_eqv ob).sz
          exact join_call hs2 hr (by simp [hp]) hb2 hz2 (by omega) (fun e he => by
            rw [et] at he
            exact ⟨_, q4 e he⟩) (by omega) q6
        · cases h
      · cases h
    · cases h
  · cases h
def kT : Inl := orInl kLab kJoinO
theorem kT_ok : InlOk Try.prog kT := orInl_ok kLab_ok kJoinO_ok

def txO (es : List (List UInt8)) : AObj := objFlat 9 1 (rowsL es)
def txG0 (ls : List (List UInt8)) (i : Nat) : GoalX := { len := 23, tms := [(3, .val (.slice none 0 0))], opn := [(9, vS ls), (10, sI ls.length), (11, sI i)] }
def txG1 (ls : List (List UInt8)) (i : Nat) (es : List (List UInt8)) : GoalX := { len := 23, opn := [(9, vS ls), (10, sI ls.length), (11, sI i), (3, .sl 0 0 es.length none)], oob := [(0, txO es)], k := 1 }
def txG1r (ls : List (List UInt8)) (i : Nat) (es : List (List UInt8)) : GoalX := { len := 23, opn := [(9, vS ls), (10, sI ls.length), (11, sI i), (3, .sl 0 0 es.length none)], oob := [(0, objAppR 9 1 (rowsL es))], k := 1 }
def txE (es : List (List UInt8)) : GoalX := { len := 23, opn := [(3, .sl 0 0 es.length none)], oob := [(0, txO es)], k := 1 }
def txL (ls es : List (List UInt8)) : LoopX := { ids := [], G := txG0 ls 0, ex := .exit 0, E := txE es }
end Go.Proofs.Ytmilcpejchjleaa

/- A name's text, reckoned. -/
namespace Go.Proofs.Ytmilcpejchjleaa
open Go.RowKit

set_option maxRecDepth 100000 in
theorem tx_0 (ls : List (List UInt8)) : outXS kT [(45, { br := [(8, true)] })] Try.prog 45 [AV.view (1 : Nat) (List.length ls) fun i => [AV.val (Value.string { data := List.toArray (List.getD ls i []) })]] [] 0 [] [] =
   some (AV.val (Value.string { data := #[(46 : UInt8)] }), [], 5,
   [((↑(List.length ls) : Int) == (0 : Int)) = true]) := by kernel_rfl

set_option maxRecDepth 100000 in
theorem tx_1 (ls : List (List UInt8)) (es : List (List UInt8)) : outXS kT [(45, { br := [(8, false)] })] Try.prog 45 [AV.view (1 : Nat) (List.length ls) fun i => [AV.val (Value.string { data := List.toArray (List.getD ls i []) })]] [] 0 [] [(5, txL ls es)] =
   some (AV.val (Value.string { data := List.toArray (joinW (txtL (rowsL es)) { data := #[(46 : UInt8)] }) }), [], 4,
   [((↑(List.length ls) : Int) == (0 : Int)) = false,
   (AV.view (1 : Nat) (List.length ls) fun i => [AV.val (Value.string { data := List.toArray (List.getD ls i []) })]) = AV.view (1 : Nat) (List.length ls) fun i => [AV.val (Value.string { data := List.toArray (List.getD ls i []) })],
   AV.val (Value.int IntKind.i64 (↑(List.length ls) : Int)) = AV.val (Value.int IntKind.i64 (↑(List.length ls) : Int)),
   AV.val (Value.int IntKind.i64 (0 : Int)) = AV.val (Value.int IntKind.i64 (0 : Int)),
   EvXL Try.prog 0 (loopAt Try.prog 45 5) (GoalX.st (LoopX.G (txL ls es)) 0) (LoopX.ex (txL ls es)) (GoalX.st (LoopX.E (txL ls es)) 0),
   (1 : Nat) = (1 : Nat),
   (0 : Nat) < List.length es,
   List.length es = List.length (rowsL es),
   txtP (rowsL es),
   List.length es ≤ (1000000000 : Nat),
   List.length (joinW (txtL (rowsL es)) { data := #[(46 : UInt8)] }) ≤ (140737488355328 : Nat)]) := by kernel_rfl

set_option maxRecDepth 100000 in
theorem tx_s0 (ls : List (List UInt8)) (i : Nat) : stepXS kT [(45, { br := [(12, true)], ob := [(6, 0)] })] Try.prog 45 5 (txG0 ls i) (txG1r ls (i + (1 : Nat)) [escL (List.getD ls i [])]) [(8 : Nat)] 0 [] =
   some (.normal,
   [decide ((↑i : Int) < (↑(List.length ls) : Int)) = true,
   (0 : Int) ≤ (↑i : Int) ∧ (↑i : Int) < (↑(List.length ls) : Int),
   AV.val (Value.string { data := List.toArray (List.getD ls i []) }) = AV.val (Value.string { data := List.toArray (strB [AV.val (Value.string { data := List.toArray (List.getD ls i []) })]) }),
   List.length (strB [AV.val (Value.string { data := List.toArray (List.getD ls i []) })]) ≤ (1000000 : Nat),
   (AV.view (1 : Nat) (List.length ls) fun i => [AV.val (Value.string { data := List.toArray (List.getD ls i []) })]) = AV.view (1 : Nat) (List.length ls) fun i => [AV.val (Value.string { data := List.toArray (List.getD ls i []) })],
   AV.val (Value.int IntKind.i64 (↑(List.length ls) : Int)) = AV.val (Value.int IntKind.i64 (↑(List.length ls) : Int)),
   AV.val (Value.int IntKind.i64 (IntKind.wrap IntKind.i64 ((↑i : Int) + (1 : Int)))) = AV.val (Value.int IntKind.i64 (↑(i + (1 : Nat)) : Int)),
   AV.sl 8 (0 : Nat) (1 : Nat) none = AV.sl (8 : Nat) (0 : Nat) (1 : Nat) none,
   SameO (some { t := (9 : Nat), sz := (1 : Nat), exact := false, fz := false, body := Body.rows [[AV.val (Value.string { data := List.toArray (escL (strB [AV.val (Value.string { data := List.toArray (List.getD ls i []) })])) })]] }) { t := (9 : Nat), sz := (1 : Nat), exact := false, fz := false, body := Body.rows [[AV.val (Value.string { data := List.toArray (escL (List.getD ls i [])) })]] }]) := by kernel_rfl

set_option maxRecDepth 100000 in
theorem tx_s1 (ls : List (List UInt8)) (i : Nat) (es : List (List UInt8)) : stepXS kT [(45, { br := [(12, true)], ob := [(6, 0), (7, 4)] })] Try.prog 45 5 (txG1 ls i es) (txG1 ls (i + (1 : Nat)) (es ++ [escL (List.getD ls i [])])) [(9 : Nat)] 0 [] =
   some (.normal,
   [decide ((↑i : Int) < (↑(List.length ls) : Int)) = true,
   (0 : Int) ≤ (↑i : Int) ∧ (↑i : Int) < (↑(List.length ls) : Int),
   AV.val (Value.string { data := List.toArray (List.getD ls i []) }) = AV.val (Value.string { data := List.toArray (strB [AV.val (Value.string { data := List.toArray (List.getD ls i []) })]) }),
   List.length (strB [AV.val (Value.string { data := List.toArray (List.getD ls i []) })]) ≤ (1000000 : Nat),
   List.length (rowsL es) = List.length es,
   List.length es + (1 : Nat) ≤ (1000000000 : Nat),
   (List.length es + (1 : Nat)) * (16 : Nat) ≤ (140737488355328 : Nat),
   (AV.view (1 : Nat) (List.length ls) fun i => [AV.val (Value.string { data := List.toArray (List.getD ls i []) })]) = AV.view (1 : Nat) (List.length ls) fun i => [AV.val (Value.string { data := List.toArray (List.getD ls i []) })],
   AV.val (Value.int IntKind.i64 (↑(List.length ls) : Int)) = AV.val (Value.int IntKind.i64 (↑(List.length ls) : Int)),
   AV.val (Value.int IntKind.i64 (IntKind.wrap IntKind.i64 ((↑i : Int) + (1 : Int)))) = AV.val (Value.int IntKind.i64 (↑(i + (1 : Nat)) : Int)),
   AV.sl 9 (0 : Nat) (List.length es + (1 : Nat)) none = AV.sl (9 : Nat) (0 : Nat) (List.length (es ++ [escL (List.getD ls i [])])) none,
   SameO (some { t := (9 : Nat), sz := (1 : Nat), exact := false, fz := false, body := Body.flat (rowsL es ++ [[AV.val (Value.string { data := List.toArray (escL (strB [AV.val (Value.string { data := List.toArray (List.getD ls i []) })])) })]]) }) { t := (9 : Nat), sz := (1 : Nat), exact := false, fz := false, body := Body.flat (List.map (fun x => (AV.brecOn_1.go x (AV.ren._f (renX 0 [(9 : Nat)] 13)) (renL._f (renX 0 [(9 : Nat)] 13))).1) (rowsL (es ++ [escL (List.getD ls i [])]))) }]) := by kernel_rfl

set_option maxRecDepth 100000 in
theorem tx_e (ls : List (List UInt8)) (i : Nat) (es : List (List UInt8)) : stepXS kT [(45, { br := [(12, false)] })] Try.prog 45 5 (txG1 ls i es) (txE es) [(0 : Nat)] 0 [] =
   some (.exit 0,
   [decide ((↑i : Int) < (↑(List.length ls) : Int)) = false,
   AV.sl (0 : Nat) (0 : Nat) (List.length es) none = AV.sl (0 : Nat) (0 : Nat) (List.length es) none,
   SameO (some { t := (9 : Nat), sz := (1 : Nat), exact := false, fz := false, body := Body.flat (rowsL es) }) { t := (9 : Nat), sz := (1 : Nat), exact := false, fz := false, body := Body.flat (List.map (fun x => (AV.brecOn_1.go x (AV.ren._f (renX 0 [(0 : Nat)] 2)) (renL._f (renX 0 [(0 : Nat)] 2))).1) (rowsL es)) }]) := by kernel_rfl
end Go.Proofs.Ytmilcpejchjleaa

/- A name's text: what the program's function yields. -/
namespace Go.Proofs.Ytmilcpejchjleaa
open Go.RowKit
set_option linter.unusedSimpArgs false

theorem ren_rows (r : Nat → Nat) (es : List (List UInt8)) : (rowsL es).map (renL r) = rowsL es := by
  unfold rowsL
  rw [List.map_map]
  rfl
theorem ren_flat (r : Nat → Nat) (t : TypeId) (es : List (List UInt8)) : (objFlat t 1 (rowsL es)).ren r = objFlat t 1 (rowsL es) := by
  show objFlat t 1 ((rowsL es).map (renL r)) = _
  rw [ren_rows]
theorem same_flat {t sz : Nat} {ex fz : Bool} {f : List AV → List AV} {es : List (List UInt8)} {l : List (List AV)} (hf : ∀ s, f [sStr s] = [sStr s]) (h : l = rowsL es) : SameO (some { t := t, sz := sz, exact := ex, fz := fz, body := .flat l }) { t := t, sz := sz, exact := ex, fz := fz, body := .flat ((rowsL es).map f) } := by
  have : (rowsL es).map f = rowsL es := by
    unfold rowsL
    rw [List.map_map]
    exact List.map_congr_left fun e _ => hf e
  rw [this, h]
  exact rfl

theorem join_len (es : List (List UInt8)) (sep : ByteArray) (hs : sep.data.toList.length ≤ 10) (m : Nat) (h : ∀ e ∈ es, e.length ≤ m) : (joinW es sep).length ≤ es.length * (m + 10) := by
  unfold joinW
  induction es with
  | nil => simp [Lib.join]
  | cons e r ih =>
    have h1 := h e (List.mem_cons_self ..)
    have h2 := ih fun x hx => h x (List.mem_cons_of_mem _ hx)
    cases r with
    | nil => simp [Lib.join]; omega
    | cons f q =>
      have ej : Lib.join (e :: f :: q) sep.data.toList = e ++ sep.data.toList ++ Lib.join (f :: q) sep.data.toList := by simp [Lib.join]
      rw [ej]
      simp only [List.length_append, List.length_cons] at h2 ⊢
      have : (q.length + 1 + 1) * (m + 10) = (q.length + 1) * (m + 10) + (m + 10) := by rw [Nat.add_mul (q.length + 1) 1, Nat.one_mul]
      omega

theorem text_loop (ls : List (List UInt8)) (hk : lsK ls) : ∀ (rest : List (List UInt8)) (i : Nat) (es : List (List UInt8)), ls.drop i = rest → i ≤ ls.length → es.length = i →
    EvXL Try.prog 0 (loopAt Try.prog 45 5) ((txG1 ls i es).st 0) (.exit 0) ((txE (es ++ rest.map escL)).st 0)
  | [], i, es, h, hil, he => by
    have hi : ls.length ≤ i := by simpa using h
    rw [List.map_nil, List.append_nil]
    exact EvXL.last (stepXS_ok kT_ok (tx_e ls i es) (by
      repeat' (first | exact allNil | refine allCons ?_ ?_ | (with_reducible refine allRp _ ?_ ?_))
      all_goals first | (with_reducible rfl) | exact decide_eq_false (by omega) | exact same_flat (fun _ => rfl) rfl)) (by simp)
  | s :: r, i, es, h, hil, he => by
    obtain ⟨hi, hg, hr⟩ := dropStep h
    have hm := hk.1
    have e : es ++ (s :: r).map escL = (es ++ [escL s]) ++ r.map escL := by simp
    rw [e]
    have hl := hk.2 i
    refine EvXL.step (stepXS_ok kT_ok (tx_s1 ls i es) ?_) (by
      rw [hg]
      exact text_loop ls hk r (i + 1) _ hr (by omega) (by simp [he]))
    rw [hg] at hl
    rw [hg]
    have e1 : strB [AV.val (Value.string { data := List.toArray s })] = s := strB_s s
    rw [e1]
    repeat' (first | exact allNil | refine allCons ?_ ?_ | (with_reducible refine allRp _ ?_ ?_))
    all_goals first | (with_reducible rfl) | exact decide_eq_true (by omega) | exact sI_succ i (by omega) | omega | (simp [rowsL]; done) | (simp; done) | exact same_flat (fun _ => rfl) (by simp [rowsL, sStr])

/-- a name's text -/
def textN (ls : List (List UInt8)) : List UInt8 := if ls = [] then [46] else joinW (ls.map escL) ⟨#[46]⟩

theorem text_call (ls : List (List UInt8)) (hk : lsK ls) : ACall Try.prog 45 [vS ls] [] 0 (sStr (textN ls)) [] 0 := by
  unfold textN
  by_cases h0 : ls = []
  · rw [if_pos h0]
    have h := outXS_ok kT_ok (tx_0 ls) (allCons (by simp [h0]) allNil)
    exact (h.lift (fun r => rfl) [] 0)
  · rw [if_neg h0]
    obtain ⟨s, r, rfl⟩ : ∃ s r, ls = s :: r := by cases ls with | nil => exact absurd rfl h0 | cons s r => exact ⟨s, r, rfl⟩
    have hm := hk.1
    have hl0 := hk.2 0
    have hlen : (joinW ((s :: r).map escL) ⟨#[46]⟩).length ≤ 140737488355328 := by
      have := join_len ((s :: r).map escL) ⟨#[46]⟩ (by simp) 4000000 (fun e he => by
        obtain ⟨x, hx, rfl⟩ := List.mem_map.1 he
        have h1 := escL_len x
        obtain ⟨n, hn, hx⟩ := List.mem_iff_getElem.1 hx
        have h2 := hk.2 n
        rw [List.getD_eq_getElem?_getD, List.getElem?_eq_getElem hn, Option.getD_some, hx] at h2
        omega)
      rw [List.length_map] at this
      have h3 : (s :: r).length * (4000000 + 10) ≤ 1000000 * (4000000 + 10) := Nat.mul_le_mul_right _ hm
      omega
    have hl : EvXL Try.prog 0 (loopAt Try.prog 45 5) ((txG0 (s :: r) 0).st 0) (.exit 0) ((txE ((s :: r).map escL)).st 0) := by
      have e : (s :: r).map escL = [escL s] ++ r.map escL := by simp
      rw [e]
      refine EvXL.step (EvX.flat (G := txG1r (s :: r) 1 [escL s]) (G' := txG1 (s :: r) 1 [escL s]) ?_ rfl rfl rfl ⟨rfl, objFlat_eqv .., trivial⟩) (text_loop (s :: r) hk r 1 [escL s] rfl (by simp) rfl)
      refine stepXS_ok kT_ok (tx_s0 (s :: r) 0) ?_
      have e1 : strB [AV.val (Value.string { data := List.toArray ((s :: r).getD 0 []) })] = s := strB_s s
      rw [e1]
      repeat' (first | exact allNil | refine allCons ?_ ?_ | (with_reducible refine allRp _ ?_ ?_))
      all_goals first | (with_reducible rfl) | rfl | exact decide_eq_true (by simp) | exact hl0 | (simp; done)
    have h := outXS_ok kT_ok (tx_1 (s :: r) ((s :: r).map escL)) (by
      have e1 := txtL_rows ((s :: r).map escL)
      have e2 := txtP_rows ((s :: r).map escL)
      have e3 : (rowsL ((s :: r).map escL)).length = ((s :: r).map escL).length := by simp [rowsL]
      rw [e1]
      repeat' (first | exact allNil | refine allCons ?_ ?_ | (with_reducible refine allRp _ ?_ ?_))
      all_goals first | (with_reducible rfl) | exact hl | exact e2 | exact e3.symm | exact hlen | (simp; done) | (simp at hm ⊢; omega))
    rw [txtL_rows] at h
    exact h.lift (fun r => rfl) [] 0
end Go.Proofs.Ytmilcpejchjleaa
