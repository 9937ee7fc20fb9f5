/- Several texts in one: Pu0, PuRun, Pu. -/
import Derived.Test.YtmilcpejchjleaaMgo

/- Good as a known function; words for the writer of names. -/
namespace Go.Proofs.Ytmilcpejchjleaa
open Go.RowKit

def strB : List AV → List UInt8
  | [.val (.string s)] => s.data.toList
  | _ => []
def lsOf : AV → List (List UInt8)
  | .view _ n f => (List.range n).map fun i => strB (f i)
  | _ => []
theorem lsOf_vS (ls : List (List UInt8)) : lsOf (vS ls) = ls := by
  apply List.ext_getElem
  · simp [lsOf, vS]
  · intro i h1 h2
    simp [lsOf, vS, strB, sStr, List.getD_eq_getElem?_getD, h2]
def lsK (ls : List (List UInt8)) : Prop := ls.length ≤ 1000000 ∧ ∀ i, (ls.getD i []).length ≤ 1000000

def kGood : Inl := fun g xs L nx =>
  if g = 49 then
    match xs with
    | [x] => some (.val (.bool (goodN (lsOf x))), L, nx, [x = vS (lsOf x), lsK (lsOf x)])
    | _ => none
  else none
theorem kGood_ok : InlOk Try.prog kGood := by
  intro g xs L nx v L' nx' q h hq
  unfold kGood at h
  split at h
  · rename_i hg
    subst hg
    split at h
    · rename_i x
      simp only [Option.some.injEq, Prod.mk.injEq] at h
      obtain ⟨rfl, rfl, rfl, rfl⟩ := h
      have h1 := hq _ (List.mem_cons_self ..)
      have h2 := hq _ (List.mem_cons_of_mem _ (List.mem_cons_self ..))
      refine ⟨?_, Nat.le_refl _⟩
      have h3 := good_call (lsOf x) h2.1 h2.2 L nx
      rw [← h1] at h3
      exact h3
    · cases h
  · cases h
def kG : Inl := orInl kGood noneKnown
theorem kG_ok : InlOk Try.prog kG := orInl_ok kGood_ok noneKnown_ok

def puO (a : List UInt8) : AObj := objApp 5 a
def puG (ls : List (List UInt8)) (i : Nat) (a : List UInt8) : GoalX := { len := 33, opn := [(15, vS ls), (16, sI ls.length), (17, sI i), (6, .sl 0 0 a.length none)], oob := [(0, puO a)], k := 1 }
def puE (a : List UInt8) : GoalX := { len := 33, opn := [(6, .sl 0 0 a.length none)], oob := [(0, puO a)], k := 1 }
/-- the labels as they are written -/
def encL : List (List UInt8) → List UInt8
  | [] => []
  | s :: r => UInt8.ofNat s.length :: (s ++ encL r)
def puL (b : List UInt8) (ls : List (List UInt8)) : LoopX := { ids := [7], G := puG ls 0 b, ex := .exit 0, E := puE (b ++ encL ls) }
end Go.Proofs.Ytmilcpejchjleaa

/- The writer of names, reckoned. -/
namespace Go.Proofs.Ytmilcpejchjleaa
open Go.RowKit

set_option maxRecDepth 100000 in
theorem put_no (b : List UInt8) (ls : List (List UInt8)) : outXS kG [(42, { br := [(11, true)] })] Try.prog 42 [AV.bytes b, AV.view (1 : Nat) (List.length ls) fun i => [AV.val (Value.string { data := List.toArray (List.getD ls i []) })]] [] 0 [] [] =
   some (AV.tup [AV.val (Value.slice none (0 : Nat) (0 : Nat)), AV.val (Value.int IntKind.i64 (1 : Int))], [], 7,
   [(AV.view (1 : Nat) (List.length ls) fun i => [AV.val (Value.string { data := List.toArray (List.getD ls i []) })]) = AV.view (1 : Nat) (List.length (lsOf (AV.view (1 : Nat) (List.length ls) fun i => [AV.val (Value.string { data := List.toArray (List.getD ls i []) })]))) fun i => [AV.val (Value.string { data := List.toArray (List.getD (lsOf (AV.view (1 : Nat) (List.length ls) fun i => [AV.val (Value.string { data := List.toArray (List.getD ls i []) })])) i []) })],
   lsK (lsOf (AV.view (1 : Nat) (List.length ls) fun i => [AV.val (Value.string { data := List.toArray (List.getD ls i []) })])),
   (!goodN (lsOf (AV.view (1 : Nat) (List.length ls) fun i => [AV.val (Value.string { data := List.toArray (List.getD ls i []) })]))) = true]) := by kernel_rfl

set_option maxRecDepth 100000 in
theorem put_yes (b : List UInt8) (ls : List (List UInt8)) : outXS kG [(42, { br := [(11, false)], ob := [(3, 2), (9, 2)] })] Try.prog 42 [AV.bytes b, AV.view (1 : Nat) (List.length ls) fun i => [AV.val (Value.string { data := List.toArray (List.getD ls i []) })]] [] 0 [(3 : Nat)] [(5, puL b ls)] =
   some (AV.tup [AV.sl 3 (0 : Nat) (List.length (b ++ encL ls) + (1 : Nat)) none, AV.val (Value.int IntKind.i64 (0 : Int))], [(3, { t := (5 : Nat), sz := (1 : Nat), exact := false, fz := false, body := Body.bytes (b ++ encL ls ++ [(0 : UInt8)]) })], 6,
   [(AV.view (1 : Nat) (List.length ls) fun i => [AV.val (Value.string { data := List.toArray (List.getD ls i []) })]) = AV.view (1 : Nat) (List.length (lsOf (AV.view (1 : Nat) (List.length ls) fun i => [AV.val (Value.string { data := List.toArray (List.getD ls i []) })]))) fun i => [AV.val (Value.string { data := List.toArray (List.getD (lsOf (AV.view (1 : Nat) (List.length ls) fun i => [AV.val (Value.string { data := List.toArray (List.getD ls i []) })])) i []) })],
   lsK (lsOf (AV.view (1 : Nat) (List.length ls) fun i => [AV.val (Value.string { data := List.toArray (List.getD ls i []) })])),
   (!goodN (lsOf (AV.view (1 : Nat) (List.length ls) fun i => [AV.val (Value.string { data := List.toArray (List.getD ls i []) })]))) = false,
   True,
   (0 : Nat) = (0 : Nat) ∧ (0 : Nat) + List.length b ≤ (1000000000 : Nat),
   (AV.view (1 : Nat) (List.length ls) fun i => [AV.val (Value.string { data := List.toArray (List.getD ls i []) })]) = AV.view (1 : Nat) (List.length ls) fun i => [AV.val (Value.string { data := List.toArray (List.getD ls i []) })],
   AV.val (Value.int IntKind.i64 (↑(List.length ls) : Int)) = AV.val (Value.int IntKind.i64 (↑(List.length ls) : Int)),
   AV.val (Value.int IntKind.i64 (0 : Int)) = AV.val (Value.int IntKind.i64 (0 : Int)),
   AV.sl 7 (0 : Nat) ((0 : Nat) + List.length b) none = AV.sl (7 : Nat) (0 : Nat) (List.length b) none,
   SameO (some { t := (5 : Nat), sz := (1 : Nat), exact := false, fz := false, body := Body.bytes b }) { t := (5 : Nat), sz := (1 : Nat), exact := false, fz := false, body := Body.bytes b },
   EvXL Try.prog 0 (loopAt Try.prog 42 5) (GoalX.st (LoopX.G (puL b ls)) 0) (LoopX.ex (puL b ls)) (GoalX.st (LoopX.E (puL b ls)) 0),
   (1 : Nat) ≤ (1 : Nat),
   List.length (b ++ encL ls) = List.length (b ++ encL ls) ∧ List.length (b ++ encL ls) + (1 : Nat) ≤ (1000000000 : Nat)]) := by kernel_rfl

set_option maxRecDepth 100000 in
theorem put_step (ls : List (List UInt8)) (i : Nat) (a : List UInt8) : stepXS kG [(42, { br := [(18, true)], ob := [(6, 0), (7, 4), (7, 5), (7, 7)] })] Try.prog 42 5 (puG ls i a) (puG ls (i + (1 : Nat)) (a ++ UInt8.ofNat (List.length (List.getD ls i [])) :: List.getD ls i [])) [(12 : Nat)] 0 [] =
   some (.normal,
   [decide ((↑i : Int) < (↑(List.length ls) : Int)) = true,
   (0 : Int) ≤ (↑i : Int) ∧ (↑i : Int) < (↑(List.length ls) : Int),
   ∀ (x : AV), x ∈ [AV.val (Value.int IntKind.u8 (IntKind.wrap IntKind.u8 (↑(List.length (List.getD ls i [])) : Int)))] → isByteAV x,
   (1 : Nat) ≤ (1 : Nat),
   List.length a = List.length a ∧ List.length a + (1 : Nat) ≤ (1000000000 : Nat),
   List.length (a ++ [UInt8.ofNat (Int.toNat (IntKind.wrap IntKind.u8 (↑(List.length (List.getD ls i [])) : Int)))]) = List.length a + (1 : Nat) ∧ List.length a + (1 : Nat) + List.length (List.getD ls i []) ≤ (1000000000 : Nat),
   (AV.view (1 : Nat) (List.length ls) fun i => [AV.val (Value.string { data := List.toArray (List.getD ls i []) })]) = AV.view (1 : Nat) (List.length ls) fun i => [AV.val (Value.string { data := List.toArray (List.getD ls i []) })],
   AV.val (Value.int IntKind.i64 (↑(List.length ls) : Int)) = AV.val (Value.int IntKind.i64 (↑(List.length ls) : Int)),
   AV.val (Value.int IntKind.i64 (IntKind.wrap IntKind.i64 ((↑i : Int) + (1 : Int)))) = AV.val (Value.int IntKind.i64 (↑(i + (1 : Nat)) : Int)),
   AV.sl 12 (0 : Nat) (List.length a + (1 : Nat) + List.length (List.getD ls i [])) none = AV.sl (12 : Nat) (0 : Nat) (List.length (a ++ UInt8.ofNat (List.length (List.getD ls i [])) :: List.getD ls i [])) none,
   SameO (some { t := (5 : Nat), sz := (1 : Nat), exact := false, fz := false, body := Body.bytes (a ++ [UInt8.ofNat (Int.toNat (IntKind.wrap IntKind.u8 (↑(List.length (List.getD ls i [])) : Int)))] ++ List.getD ls i []) }) { t := (5 : Nat), sz := (1 : Nat), exact := false, fz := false, body := Body.bytes (a ++ UInt8.ofNat (List.length (List.getD ls i [])) :: List.getD ls i []) }]) := by kernel_rfl

set_option maxRecDepth 100000 in
theorem put_end (ls : List (List UInt8)) (i : Nat) (a : List UInt8) : stepXS kG [(42, { br := [(18, false)] })] Try.prog 42 5 (puG ls i a) (puE a) [(0 : Nat)] 0 [] =
   some (.exit 0,
   [decide ((↑i : Int) < (↑(List.length ls) : Int)) = false,
   AV.sl (0 : Nat) (0 : Nat) (List.length a) none = AV.sl (0 : Nat) (0 : Nat) (List.length a) none,
   SameO (some { t := (5 : Nat), sz := (1 : Nat), exact := false, fz := false, body := Body.bytes a }) { t := (5 : Nat), sz := (1 : Nat), exact := false, fz := false, body := Body.bytes a }]) := by kernel_rfl
end Go.Proofs.Ytmilcpejchjleaa

/- The writer of names: what the program's function yields. -/
namespace Go.Proofs.Ytmilcpejchjleaa
open Go.RowKit
set_option linter.unusedSimpArgs false

theorem goodF_enc : ∀ (z : Nat) (r : List (List UInt8)), goodF z r = true → z ≤ 255 → z + (encL r).length ≤ 255 ∧ ∀ s ∈ r, s.length ≤ 63
  | z, [], _, hz => ⟨by simpa [encL] using hz, fun s hs => by cases hs⟩
  | z, s :: r, h, hz => by
    unfold goodF at h
    split at h
    · cases h
    · split at h
      · cases h
      · rename_i h1 h2
        have := goodF_enc (z + 1 + s.length) r h (by omega)
        refine ⟨?_, fun t ht => ?_⟩
        · have h3 := this.1
          simp only [encL, List.length_cons, List.length_append]
          omega
        · rcases List.mem_cons.1 ht with h4 | h4
          · rw [h4]; omega
          · exact this.2 t h4

theorem putLen (n : Nat) (h : n ≤ 63) : UInt8.ofNat (Int.toNat (IntKind.wrap IntKind.u8 (n : Int))) = UInt8.ofNat n := by
  have e : IntKind.wrap IntKind.u8 (n : Int) = (n : Int) := by rw [wu8]; omega
  rw [e]; simp

theorem put_loop (ls : List (List UInt8)) (hm : ls.length ≤ 1000000) : ∀ (rest : List (List UInt8)) (i : Nat) (a : List UInt8), ls.drop i = rest → i ≤ ls.length → (∀ s ∈ rest, s.length ≤ 63) → a.length + (encL rest).length ≤ 1000000 →
    EvXL Try.prog 0 (loopAt Try.prog 42 5) ((puG ls i a).st 0) (.exit 0) ((puE (a ++ encL rest)).st 0)
  | [], i, a, h, hil, hl, ha => by
    have hi : ls.length ≤ i := by simpa using h
    have e : a ++ encL [] = a := by simp [encL]
    rw [e]
    exact EvXL.last (stepXS_ok kG_ok (put_end ls i a) (by
      repeat' (first | exact allNil | refine allCons ?_ ?_ | (with_reducible refine allRp _ ?_ ?_))
      all_goals first | (with_reducible rfl) | (simp; omega) | (simp [SameO]; done))) (by simp)
  | s :: r, i, a, h, hil, hl, ha => by
    have hi : i < ls.length := by
      rcases Nat.lt_or_ge i ls.length with h' | h'
      · exact h'
      · rw [List.drop_of_length_le h'] at h; cases h
    have hc := List.drop_eq_getElem_cons hi
    rw [h] at hc
    injection hc with hs hr
    have hg : ls.getD i [] = s := by rw [List.getD_eq_getElem?_getD, List.getElem?_eq_getElem hi, hs]; rfl
    have h63 : s.length ≤ 63 := hl s (List.mem_cons_self ..)
    have e : a ++ encL (s :: r) = (a ++ UInt8.ofNat s.length :: s) ++ encL r := by simp [encL]
    have hln : (encL (s :: r)).length = 1 + s.length + (encL r).length := by simp [encL]; omega
    rw [hln] at ha
    rw [e]
    refine EvXL.step (stepXS_ok kG_ok (put_step ls i a) ?_) (by
      rw [hg]
      exact put_loop ls hm r (i + 1) _ hr.symm (by omega) (fun t ht => hl t (List.mem_cons_of_mem _ ht)) (by simp; omega))
    rw [hg, putLen _ h63]
    repeat' (first | exact allNil | refine allCons ?_ ?_ | (with_reducible refine allRp _ ?_ ?_))
    all_goals first | (with_reducible rfl) | exact sI_succ i (by omega) | (simp; omega) | (simp; done) | (simp [SameO]; done) | (simp; constructor <;> omega) | (intro x hx; rw [List.mem_singleton.1 hx]; exact ⟨_, rfl⟩) | (intro x hx; rw [List.mem_singleton.1 hx]; simp [isByteAV, wu8]; done) | (intro x hx; rw [List.mem_singleton.1 hx]; simp [isByteAV, wu8]; omega) | (simp; omega) | skip

theorem put_bad (b : List UInt8) (ls : List (List UInt8)) (hk : lsK ls) (hg : goodN ls = false) : ACall Try.prog 42 [.bytes b, vS ls] [] 0 (.tup [.val (.slice none 0 0), .val (.int .i64 1)]) [] 7 := by
  refine outXS_ok kG_ok (put_no b ls) ?_
  have e := lsOf_vS ls
  refine allCons (show vS ls = vS (lsOf (vS ls)) by rw [e]) (allCons (show lsK (lsOf (vS ls)) by rw [e]; exact hk) (allCons (show (!goodN (lsOf (vS ls))) = true by rw [e, hg]; rfl) allNil))

theorem put_ok (b : List UInt8) (ls : List (List UInt8)) (hk : lsK ls) (hg : goodN ls = true) (hb : b.length ≤ 900000) :
    ACall Try.prog 42 [.bytes b, vS ls] [] 0 (.tup [.sl 3 0 ((b ++ encL ls).length + 1) none, .val (.int .i64 0)]) [(3, puO (b ++ encL ls ++ [0]))] 6 := by
  have he := goodF_enc 1 ls hg (by decide)
  have hl := put_loop ls hk.1 ls 0 b rfl (by omega) he.2 (by omega)
  refine outXS_ok kG_ok (put_yes b ls) ?_
  have e := lsOf_vS ls
  refine allCons (show vS ls = vS (lsOf (vS ls)) by rw [e]) (allCons (show lsK (lsOf (vS ls)) by rw [e]; exact hk) (allCons (show (!goodN (lsOf (vS ls))) = false by rw [e, hg]; rfl) ?_))
  have hle : (b ++ encL ls).length + 1 ≤ 1000000000 := by simp; omega
  repeat' (first | exact allNil | refine allCons ?_ ?_ | (with_reducible refine allRp _ ?_ ?_))
  all_goals first | (with_reducible rfl) | exact hl | exact ⟨rfl, hle⟩ | trivial | (simp; omega) | (simp; done) | (simp [SameO]; done) | skip
end Go.Proofs.Ytmilcpejchjleaa
