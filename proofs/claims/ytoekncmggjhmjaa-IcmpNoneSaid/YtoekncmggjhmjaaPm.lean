/- Several texts in one: TnRun, Turn, GdRun, Good, SzRun, Sizes, Eza, Ip4B. -/
import Derived.Test.YtoekncmggjhmjaaAw
import Derived.Test.YtoekncmggjhmjaaWm
import Derived.Test.YtoekncmggjhmjaaEz

/- Reckoned on each of its ways. (Printed by wip/tools/gen.py from wip/sym/XSTn.lean for the seat of chapters 6 to 9.) -/
namespace Go.Proofs.Ytoekncmggjhmjaa
open Go.RowKit

set_option maxRecDepth 100000 in
theorem turn_run (s : Int) (xs : List UInt8) (ys : List UInt8) (o1 : Nat) (o2 : Nat) (t1 : Nat) (t2 : Nat) (x1 : Bool) (z1 : Bool) (x2 : Bool) (z2 : Bool) : outT k69 [(95, { op := [(7, 4, .get), (7, 11, .get), (8, 4, .get), (8, 11, .get)], ob := [(7, 4), (7, 11), (8, 4), (8, 11)] })] Try.prog 95 [AV.val (Value.int IntKind.i64 s), AV.sl (0 : Nat) o1 (2 : Nat) none, AV.sl (1 : Nat) o2 (2 : Nat) none] [(0, { t := t1, sz := (1 : Nat), exact := x1, fz := z1, body := Body.bytes xs }), (1, { t := t2, sz := (1 : Nat), exact := x2, fz := z2, body := Body.bytes ys })] 2 =
   some (AV.val (Value.int IntKind.i64 (IntKind.wrap IntKind.i64 ((65535 : Int) - IntKind.wrap IntKind.i64 (bits BinOp.and IntKind.i64 (IntKind.wrap IntKind.i64 (bits BinOp.and IntKind.i64 (IntKind.wrap IntKind.i64 (bits BinOp.and IntKind.i64 (IntKind.wrap IntKind.i64 (bits BinOp.and IntKind.i64 (IntKind.wrap IntKind.i64 ((65535 : Int) - bits BinOp.and IntKind.i64 s (65535 : Int))) (65535 : Int) + bits BinOp.and IntKind.i64 (IntKind.wrap IntKind.i64 ((65535 : Int) - bits BinOp.or IntKind.i64 (IntKind.wrap IntKind.i64 (IntKind.wrap IntKind.i64 (↑(UInt8.toNat (List.getD xs o1 (0 : UInt8))) : Int) * (256 : Int))) (IntKind.wrap IntKind.i64 (↑(UInt8.toNat (List.getD xs (o1 + (1 : Nat)) (0 : UInt8))) : Int)))) (65535 : Int))) (65535 : Int) + Int.fdiv (IntKind.wrap IntKind.i64 (bits BinOp.and IntKind.i64 (IntKind.wrap IntKind.i64 ((65535 : Int) - bits BinOp.and IntKind.i64 s (65535 : Int))) (65535 : Int) + bits BinOp.and IntKind.i64 (IntKind.wrap IntKind.i64 ((65535 : Int) - bits BinOp.or IntKind.i64 (IntKind.wrap IntKind.i64 (IntKind.wrap IntKind.i64 (↑(UInt8.toNat (List.getD xs o1 (0 : UInt8))) : Int) * (256 : Int))) (IntKind.wrap IntKind.i64 (↑(UInt8.toNat (List.getD xs (o1 + (1 : Nat)) (0 : UInt8))) : Int)))) (65535 : Int))) (65536 : Int))) (65535 : Int) + bits BinOp.and IntKind.i64 (bits BinOp.or IntKind.i64 (IntKind.wrap IntKind.i64 (IntKind.wrap IntKind.i64 (↑(UInt8.toNat (List.getD ys o2 (0 : UInt8))) : Int) * (256 : Int))) (IntKind.wrap IntKind.i64 (↑(UInt8.toNat (List.getD ys (o2 + (1 : Nat)) (0 : UInt8))) : Int))) (65535 : Int))) (65535 : Int) + Int.fdiv (IntKind.wrap IntKind.i64 (bits BinOp.and IntKind.i64 (IntKind.wrap IntKind.i64 (bits BinOp.and IntKind.i64 (IntKind.wrap IntKind.i64 (bits BinOp.and IntKind.i64 (IntKind.wrap IntKind.i64 ((65535 : Int) - bits BinOp.and IntKind.i64 s (65535 : Int))) (65535 : Int) + bits BinOp.and IntKind.i64 (IntKind.wrap IntKind.i64 ((65535 : Int) - bits BinOp.or IntKind.i64 (IntKind.wrap IntKind.i64 (IntKind.wrap IntKind.i64 (↑(UInt8.toNat (List.getD xs o1 (0 : UInt8))) : Int) * (256 : Int))) (IntKind.wrap IntKind.i64 (↑(UInt8.toNat (List.getD xs (o1 + (1 : Nat)) (0 : UInt8))) : Int)))) (65535 : Int))) (65535 : Int) + Int.fdiv (IntKind.wrap IntKind.i64 (bits BinOp.and IntKind.i64 (IntKind.wrap IntKind.i64 ((65535 : Int) - bits BinOp.and IntKind.i64 s (65535 : Int))) (65535 : Int) + bits BinOp.and IntKind.i64 (IntKind.wrap IntKind.i64 ((65535 : Int) - bits BinOp.or IntKind.i64 (IntKind.wrap IntKind.i64 (IntKind.wrap IntKind.i64 (↑(UInt8.toNat (List.getD xs o1 (0 : UInt8))) : Int) * (256 : Int))) (IntKind.wrap IntKind.i64 (↑(UInt8.toNat (List.getD xs (o1 + (1 : Nat)) (0 : UInt8))) : Int)))) (65535 : Int))) (65536 : Int))) (65535 : Int) + bits BinOp.and IntKind.i64 (bits BinOp.or IntKind.i64 (IntKind.wrap IntKind.i64 (IntKind.wrap IntKind.i64 (↑(UInt8.toNat (List.getD ys o2 (0 : UInt8))) : Int) * (256 : Int))) (IntKind.wrap IntKind.i64 (↑(UInt8.toNat (List.getD ys (o2 + (1 : Nat)) (0 : UInt8))) : Int))) (65535 : Int))) (65536 : Int))))), [(1, { t := t2, sz := (1 : Nat), exact := x2, fz := z2, body := Body.bytes ys }), (0, { t := t1, sz := (1 : Nat), exact := x1, fz := z1, body := Body.bytes xs })], 92,
   [o1 < List.length xs,
   o1 + (1 : Nat) < List.length xs,
   o2 < List.length ys,
   o2 + (1 : Nat) < List.length ys]) := by kernel_rfl

set_option maxRecDepth 100000 in
theorem refTurn_run (s : Int) (a : UInt8) (b : UInt8) (ys : List UInt8) (o2 : Nat) (t2 : Nat) (x2 : Bool) (z2 : Bool) : outT k69 [(97, { ob := [(8, 3)] })] Try.prog 97 [AV.val (Value.int IntKind.i64 s), AV.bytes [a, b], AV.sl (0 : Nat) o2 (2 : Nat) none] [(0, { t := t2, sz := (1 : Nat), exact := x2, fz := z2, body := Body.bytes ys })] 1 =
   some (AV.val (Value.int IntKind.i64 (IntKind.wrap IntKind.i64 ((65535 : Int) - IntKind.wrap IntKind.i64 (bits BinOp.and IntKind.i64 (IntKind.wrap IntKind.i64 (bits BinOp.and IntKind.i64 (IntKind.wrap IntKind.i64 (bits BinOp.and IntKind.i64 (IntKind.wrap IntKind.i64 (bits BinOp.and IntKind.i64 (IntKind.wrap IntKind.i64 ((65535 : Int) - bits BinOp.and IntKind.i64 s (65535 : Int))) (65535 : Int) + bits BinOp.and IntKind.i64 (IntKind.wrap IntKind.i64 ((65535 : Int) - (↑(at16 [a, b] (0 : Nat)) : Int))) (65535 : Int))) (65535 : Int) + Int.fdiv (IntKind.wrap IntKind.i64 (bits BinOp.and IntKind.i64 (IntKind.wrap IntKind.i64 ((65535 : Int) - bits BinOp.and IntKind.i64 s (65535 : Int))) (65535 : Int) + bits BinOp.and IntKind.i64 (IntKind.wrap IntKind.i64 ((65535 : Int) - (↑(at16 [a, b] (0 : Nat)) : Int))) (65535 : Int))) (65536 : Int))) (65535 : Int) + bits BinOp.and IntKind.i64 (↑(at16 (List.take (2 : Nat) (List.drop o2 ys)) (0 : Nat)) : Int) (65535 : Int))) (65535 : Int) + Int.fdiv (IntKind.wrap IntKind.i64 (bits BinOp.and IntKind.i64 (IntKind.wrap IntKind.i64 (bits BinOp.and IntKind.i64 (IntKind.wrap IntKind.i64 (bits BinOp.and IntKind.i64 (IntKind.wrap IntKind.i64 ((65535 : Int) - bits BinOp.and IntKind.i64 s (65535 : Int))) (65535 : Int) + bits BinOp.and IntKind.i64 (IntKind.wrap IntKind.i64 ((65535 : Int) - (↑(at16 [a, b] (0 : Nat)) : Int))) (65535 : Int))) (65535 : Int) + Int.fdiv (IntKind.wrap IntKind.i64 (bits BinOp.and IntKind.i64 (IntKind.wrap IntKind.i64 ((65535 : Int) - bits BinOp.and IntKind.i64 s (65535 : Int))) (65535 : Int) + bits BinOp.and IntKind.i64 (IntKind.wrap IntKind.i64 ((65535 : Int) - (↑(at16 [a, b] (0 : Nat)) : Int))) (65535 : Int))) (65536 : Int))) (65535 : Int) + bits BinOp.and IntKind.i64 (↑(at16 (List.take (2 : Nat) (List.drop o2 ys)) (0 : Nat)) : Int) (65535 : Int))) (65536 : Int))))), [(0, { t := t2, sz := (1 : Nat), exact := x2, fz := z2, body := Body.bytes ys })], 71,
   [True,
   (2 : Nat) ≤ (100000000 : Nat),
   (0 : Int) ≤ (0 : Int),
   (2 : Nat) ≤ (2 : Nat),
   o2 + (2 : Nat) ≤ List.length ys,
   List.length (List.take (2 : Nat) (List.drop o2 ys)) ≤ (100000000 : Nat),
   (0 : Int) ≤ (0 : Int),
   (2 : Nat) ≤ List.length (List.take (2 : Nat) (List.drop o2 ys))]) := by kernel_rfl
end Go.Proofs.Ytoekncmggjhmjaa

/- Turn of a sum by two bytes: known to the engine. -/
namespace Go.Proofs.Ytoekncmggjhmjaa
open Go.RowKit

def turnN (s o n : Nat) : Nat := 65535 - add16 (add16 (65535 - s) (65535 - o)) n

theorem add16_bd (x y : Nat) (hx : x ≤ 65535) (hy : y ≤ 65535) : add16 x y ≤ 65535 := add16_le x y hx hy

theorem add_raw (a b : Int) (x y : Nat) (hx : x ≤ 65535) (hy : y ≤ 65535) (ha : a = (x : Int)) (hb : b = (y : Int)) :
    IntKind.wrap IntKind.i64 (bits BinOp.and IntKind.i64 (IntKind.wrap IntKind.i64 (bits BinOp.and IntKind.i64 a (65535 : Int) + bits BinOp.and IntKind.i64 b (65535 : Int))) (65535 : Int) + Int.fdiv (IntKind.wrap IntKind.i64 (bits BinOp.and IntKind.i64 a (65535 : Int) + bits BinOp.and IntKind.i64 b (65535 : Int))) (65536 : Int)) = ((add16 x y : Nat) : Int) := by
  rw [and_65535 a, and_65535 b, ha, hb, w64 ((x : Int) % 65536 + (y : Int) % 65536) (by omega), and_65535, fd65536, w64 _ (by omega)]
  unfold add16
  omega

theorem pair_raw (x y : UInt8) : bits BinOp.or IntKind.i64 (IntKind.wrap IntKind.i64 (IntKind.wrap IntKind.i64 (x.toNat : Int) * (256 : Int))) (IntKind.wrap IntKind.i64 (y.toNat : Int)) = ((x.toNat * 256 + y.toNat : Nat) : Int) := by
  have hx := x.toNat_lt
  have hy := y.toNat_lt
  rw [w64 (x.toNat : Int) (by omega), w64 (y.toNat : Int) (by omega), w64 ((x.toNat : Int) * 256) (by omega), or_byte]
  omega

theorem turn_raw (s a b : Int) (so o n : Nat) (h1 : so ≤ 65535) (h2 : o ≤ 65535) (h3 : n ≤ 65535) (e1 : s % 65536 = so) (e2 : a = (o : Int)) (e3 : b = (n : Int)) :
    ∀ r1 r2 : Int, r1 = IntKind.wrap IntKind.i64 (bits BinOp.and IntKind.i64 (IntKind.wrap IntKind.i64 (bits BinOp.and IntKind.i64 (IntKind.wrap IntKind.i64 ((65535 : Int) - bits BinOp.and IntKind.i64 s (65535 : Int))) (65535 : Int) + bits BinOp.and IntKind.i64 (IntKind.wrap IntKind.i64 ((65535 : Int) - a)) (65535 : Int))) (65535 : Int) + Int.fdiv (IntKind.wrap IntKind.i64 (bits BinOp.and IntKind.i64 (IntKind.wrap IntKind.i64 ((65535 : Int) - bits BinOp.and IntKind.i64 s (65535 : Int))) (65535 : Int) + bits BinOp.and IntKind.i64 (IntKind.wrap IntKind.i64 ((65535 : Int) - a)) (65535 : Int))) (65536 : Int)) →
      r2 = IntKind.wrap IntKind.i64 (bits BinOp.and IntKind.i64 (IntKind.wrap IntKind.i64 (bits BinOp.and IntKind.i64 r1 (65535 : Int) + bits BinOp.and IntKind.i64 b (65535 : Int))) (65535 : Int) + Int.fdiv (IntKind.wrap IntKind.i64 (bits BinOp.and IntKind.i64 r1 (65535 : Int) + bits BinOp.and IntKind.i64 b (65535 : Int))) (65536 : Int)) →
      IntKind.wrap IntKind.i64 ((65535 : Int) - r2) = ((turnN so o n : Nat) : Int) := by
  intro r1 r2 q1 q2
  have p1 := add_raw (IntKind.wrap IntKind.i64 ((65535 : Int) - bits BinOp.and IntKind.i64 s (65535 : Int))) (IntKind.wrap IntKind.i64 ((65535 : Int) - a)) (65535 - so) (65535 - o) (by omega) (by omega)
    (by rw [and_65535, e1, w64 _ (by omega)]; omega) (by rw [e2, w64 _ (by omega)]; omega)
  rw [p1] at q1
  have b1 := add16_bd (65535 - so) (65535 - o) (by omega) (by omega)
  have p2 := add_raw r1 b (add16 (65535 - so) (65535 - o)) n b1 h3 q1 e3
  rw [p2] at q2
  have b2 := add16_bd (add16 (65535 - so) (65535 - o)) n b1 h3
  rw [q2, w64 _ (by omega)]
  unfold turnN
  omega

def trL (t1 t2 : Nat) (x1 z1 x2 z2 : Bool) (xs ys : List UInt8) : List (Nat × AObj) := [(0, ⟨t1, 1, x1, z1, .bytes xs⟩), (1, ⟨t2, 1, x2, z2, .bytes ys⟩)]
def trL' (t1 t2 : Nat) (x1 z1 x2 z2 : Bool) (xs ys : List UInt8) : List (Nat × AObj) := [(1, ⟨t2, 1, x2, z2, .bytes ys⟩), (0, ⟨t1, 1, x1, z1, .bytes xs⟩)]

def pairN (xs : List UInt8) (o : Nat) : Nat := (xs.getD o 0).toNat * 256 + (xs.getD (o + 1) 0).toNat
theorem pairN_le (xs : List UInt8) (o : Nat) : pairN xs o ≤ 65535 := by
  have := (xs.getD o 0).toNat_lt
  have := (xs.getD (o + 1) 0).toNat_lt
  unfold pairN; omega
theorem s_mod (s : Int) : s % 65536 = ((Int.toNat (s % 65536) : Nat) : Int) := by omega
theorem s_le (s : Int) : Int.toNat (s % 65536) ≤ 65535 := by omega

theorem turn_c (s : Int) (xs ys : List UInt8) (o1 o2 t1 t2 : Nat) (x1 z1 x2 z2 : Bool) (h1 : o1 + 2 ≤ xs.length) (h2 : o2 + 2 ≤ ys.length) :
    ACall Try.prog 95 [.val (.int .i64 s), .sl 0 o1 2 none, .sl 1 o2 2 none] (trL t1 t2 x1 z1 x2 z2 xs ys) 2 (.val (.int .i64 (turnN (Int.toNat (s % 65536)) (pairN xs o1) (pairN ys o2) : Nat))) (trL' t1 t2 x1 z1 x2 z2 xs ys) 92 := by
  have h := (outT_ok k69_ok (turn_run s xs ys o1 o2 t1 t2 x1 z1 x2 z2) (by
    repeat' (first | exact allNil | refine allCons ?_ ?_)
    all_goals omega)).1
  rw [turn_raw s _ _ (Int.toNat (s % 65536)) (pairN xs o1) (pairN ys o2) (s_le s) (pairN_le _ _) (pairN_le _ _) (s_mod s) (pair_raw _ _) (pair_raw _ _) _ _ rfl rfl] at h
  exact h

theorem at16_take2 (ys : List UInt8) (o : Nat) (h : o + 2 ≤ ys.length) : at16 (List.take 2 (List.drop o ys)) 0 = pairN ys o := by
  have e0 : (List.take 2 (List.drop o ys))[0]? = some (ys.getD o 0) := by
    simp [List.getElem?_drop, List.getD_eq_getElem?_getD, List.getElem?_eq_getElem (show o < ys.length from by omega)]
  have e1 : (List.take 2 (List.drop o ys))[0 + 1]? = some (ys.getD (o + 1) 0) := by
    rw [List.getElem?_take, if_pos (by omega), List.getElem?_drop, List.getD_eq_getElem?_getD, List.getElem?_eq_getElem (by omega)]; simp
  rw [at16_two _ 0 _ _ e0 e1]; rfl

theorem refTurn_c (s : Int) (old ys : List UInt8) (o2 t2 : Nat) (x2 z2 : Bool) (h1 : old.length = 2) (h2 : o2 + 2 ≤ ys.length) :
    ACall Try.prog 97 [.val (.int .i64 s), .bytes old, .sl 0 o2 2 none] [(0, ⟨t2, 1, x2, z2, .bytes ys⟩)] 1 (.val (.int .i64 (turnN (Int.toNat (s % 65536)) (pairN old 0) (pairN ys o2) : Nat))) [(0, ⟨t2, 1, x2, z2, .bytes ys⟩)] 71 := by
  match old, h1 with
  | [a, b], _ =>
    have h := (outT_ok k69_ok (refTurn_run s a b ys o2 t2 x2 z2) (by
      repeat' (first | exact allNil | refine allCons ?_ ?_)
      all_goals first | exact True.intro | omega | (simp; omega))).1
    have e1 : at16 [a, b] 0 = pairN [a, b] 0 := at16_two [a, b] 0 a b rfl rfl
    have e2 := at16_take2 ys o2 h2
    rw [turn_raw s _ _ (Int.toNat (s % 65536)) (pairN [a, b] 0) (pairN ys o2) (s_le s) (pairN_le _ _) (pairN_le _ _) (s_mod s) (by rw [e1]) (by rw [e2]) _ _ rfl rfl] at h
    exact h

def kTurn : Inl := fun g xs L nx =>
  match xs with
  | [.val (.int .i64 s), x, .sl id o 2 none] =>
    match hp L id with
    | some ⟨t2, 1, x2, z2, .bytes ys⟩ =>
      if g = 95 then
        match x with
        | .sl id1 o1 2 none =>
          match hp L id1 with
          | some ⟨t1, 1, x1, z1, .bytes xs⟩ =>
            if id1 < nx ∧ id < nx ∧ id1 ≠ id then
              some (.val (.int .i64 (turnN (Int.toNat (s % 65536)) (pairN xs o1) (pairN ys o) : Nat)), [(id, ⟨t2, 1, x2, z2, .bytes ys⟩), (id1, ⟨t1, 1, x1, z1, .bytes xs⟩)] ++ L.filter fun p => ![id1, id].contains p.1, nx + 90, [o1 + 2 ≤ xs.length, o + 2 ≤ ys.length])
            else none
          | _ => none
        | _ => none
      else if g = 97 then
        match x with
        | .bytes old =>
          if id < nx then
            some (.val (.int .i64 (turnN (Int.toNat (s % 65536)) (pairN old 0) (pairN ys o) : Nat)), [(id, ⟨t2, 1, x2, z2, .bytes ys⟩)] ++ L.filter fun p => ![id].contains p.1, nx + 70, [old.length = 2, o + 2 ≤ ys.length])
          else none
        | _ => none
      else none
    | _ => none
  | _ => none

theorem kTurn_ok : InlOk Try.prog kTurn := by
  intro g xs L nx v L' nx' q h hq
  unfold kTurn at h
  split at h
  · rename_i s x id o
    split at h
    · rename_i t2 x2 z2 ys h2
      split at h
      · rename_i hg
        subst hg
        split at h
        · rename_i id1 o1
          split at h
          · rename_i t1 x1 z1 xs h1
            split at h
            · rename_i h3
              simp only [Option.some.injEq, Prod.mk.injEq] at h
              obtain ⟨rfl, rfl, rfl, rfl⟩ := h
              refine ⟨?_, by omega⟩
              have q1 : o1 + 2 ≤ xs.length := hq _ List.mem_cons_self
              have q2 : o + 2 ≤ ys.length := hq _ (List.mem_cons_of_mem _ List.mem_cons_self)
              have := ACall.used (ids := [id1, id]) (K := L) (nx := nx) (turn_c s xs ys o1 o t1 t2 x1 z1 x2 z2 q1 q2 : ACall Try.prog _ _ _ [id1, id].length _ _ 92)
                (by simp [h3.2.2]) (by simp [h3.1, h3.2.1]) (by simp) (fun m x hm => ?_)
              · simpa [renL, AV.ren, renN, trL, trL', renH, AObj.ren] using this
              · simp only [trL, hp] at hm
                by_cases e0 : m = 0
                · subst e0
                  simp at hm
                  subst hm
                  exact ⟨by simp, by simpa [renN, AObj.ren] using h1⟩
                · rw [if_neg e0] at hm
                  by_cases e1 : m = 1
                  · subst e1
                    simp at hm
                    subst hm
                    exact ⟨by simp, by simpa [renN, AObj.ren] using h2⟩
                  · rw [if_neg e1] at hm; cases hm
            · cases h
          · cases h
        · cases h
      · split at h
        · rename_i hg
          subst hg
          split at h
          · rename_i old
            split at h
            · rename_i h3
              simp only [Option.some.injEq, Prod.mk.injEq] at h
              obtain ⟨rfl, rfl, rfl, rfl⟩ := h
              refine ⟨?_, by omega⟩
              have q1 : old.length = 2 := hq _ List.mem_cons_self
              have q2 : o + 2 ≤ ys.length := hq _ (List.mem_cons_of_mem _ List.mem_cons_self)
              have := ACall.used (ids := [id]) (K := L) (nx := nx) (refTurn_c s old ys o t2 x2 z2 q1 q2 : ACall Try.prog _ _ _ [id].length _ _ 71)
                (by simp) (by simp [h3]) (by simp) (fun m x hm => ?_)
              · simpa [renL, AV.ren, renN, renH, AObj.ren] using this
              · simp only [hp] at hm
                by_cases e0 : m = 0
                · subst e0
                  simp at hm
                  subst hm
                  exact ⟨by simp, by simpa [renN, AObj.ren] using h2⟩
                · rw [if_neg e0] at hm; cases hm
            · cases h
          · cases h
        · cases h
    · cases h
  · cases h

theorem fd16 (z : Int) : Int.fdiv z 16 = z / 16 := Int.fdiv_eq_ediv_of_nonneg _ (by decide)
theorem fd8192 (z : Int) : Int.fdiv z 8192 = z / 8192 := Int.fdiv_eq_ediv_of_nonneg _ (by decide)
theorem at16_take (l : List UInt8) (n i : Nat) (h : i + 2 ≤ n) : at16 (List.take n l) i = at16 l i := by
  unfold at16
  rw [List.drop_take, List.take_take, Nat.min_eq_left (by omega)]
theorem at32_take (l : List UInt8) (n i : Nat) (h : i + 4 ≤ n) : at32 (List.take n l) i = at32 l i := by
  unfold at32
  rw [List.drop_take, List.take_take, Nat.min_eq_left (by omega)]
theorem at8_take (l : List UInt8) (n i : Nat) (h : i + 1 ≤ n) : at8 (List.take n l) i = (l.getD i 0).toNat := by
  rw [← at8_getD]
  unfold at8
  rw [List.drop_take, List.take_take, Nat.min_eq_left (by omega)]
theorem at32_four (l : List UInt8) (i : Nat) (h : i + 4 ≤ l.length) : at32 l i = (((l.getD i 0).toNat * 256 + (l.getD (i + 1) 0).toNat) * 256 + (l.getD (i + 2) 0).toNat) * 256 + (l.getD (i + 3) 0).toNat := by
  rw [← at32_len l i h]
  simp [List.getElem?_drop, List.getD_eq_getElem?_getD]
theorem at32_d0 (l : List UInt8) (i : Nat) (h : i + 4 ≤ l.length) : ((at32 l i : Nat) : Int) / 16777216 % 256 = ((l.getD i 0).toNat : Int) := by
  have a := (l.getD i 0).toNat_lt
  have b := (l.getD (i + 1) 0).toNat_lt
  have c := (l.getD (i + 2) 0).toNat_lt
  have d := (l.getD (i + 3) 0).toNat_lt
  rw [at32_four l i h]; omega
theorem at32_d1 (l : List UInt8) (i : Nat) (h : i + 4 ≤ l.length) : ((at32 l i : Nat) : Int) / 65536 % 256 = ((l.getD (i + 1) 0).toNat : Int) := by
  have a := (l.getD i 0).toNat_lt
  have b := (l.getD (i + 1) 0).toNat_lt
  have c := (l.getD (i + 2) 0).toNat_lt
  have d := (l.getD (i + 3) 0).toNat_lt
  rw [at32_four l i h]; omega
theorem at32_d2 (l : List UInt8) (i : Nat) (h : i + 4 ≤ l.length) : ((at32 l i : Nat) : Int) / 256 % 256 = ((l.getD (i + 2) 0).toNat : Int) := by
  have a := (l.getD i 0).toNat_lt
  have b := (l.getD (i + 1) 0).toNat_lt
  have c := (l.getD (i + 2) 0).toNat_lt
  have d := (l.getD (i + 3) 0).toNat_lt
  rw [at32_four l i h]; omega
theorem at32_d3 (l : List UInt8) (i : Nat) (h : i + 4 ≤ l.length) : ((at32 l i : Nat) : Int) % 256 = ((l.getD (i + 3) 0).toNat : Int) := by
  have a := (l.getD i 0).toNat_lt
  have b := (l.getD (i + 1) 0).toNat_lt
  have c := (l.getD (i + 2) 0).toNat_lt
  have d := (l.getD (i + 3) 0).toNat_lt
  rw [at32_four l i h]; omega
theorem pair_at (l : List UInt8) (i : Nat) (h : i + 2 ≤ l.length) : (l.getD i 0).toNat * 256 + (l.getD (i + 1) 0).toNat = at16 l i := by
  rw [at16_two l i (l.getD i 0) (l.getD (i + 1) 0) (by rw [List.getD_eq_getElem?_getD, List.getElem?_eq_getElem (by omega)]; rfl) (by rw [List.getD_eq_getElem?_getD, List.getElem?_eq_getElem (by omega)]; rfl)]
theorem pair_raw_at (l : List UInt8) (i : Nat) (h : i + 2 ≤ l.length) : bits BinOp.or IntKind.i64 (IntKind.wrap IntKind.i64 (IntKind.wrap IntKind.i64 (↑(UInt8.toNat (List.getD l i (0 : UInt8))) : Int) * (256 : Int))) (IntKind.wrap IntKind.i64 (↑(UInt8.toNat (List.getD l (i + 1) (0 : UInt8))) : Int)) = ((at16 l i : Nat) : Int) := by
  rw [pair_raw, pair_at l i h]
theorem head_raw (x : UInt8) : IntKind.wrap IntKind.i64 (IntKind.wrap IntKind.i64 (bits BinOp.and IntKind.u8 (↑(UInt8.toNat x) : Int) (15 : Int)) * (4 : Int)) = ((x.toNat % 16 * 4 : Nat) : Int) := by
  have hx := x.toNat_lt
  rw [u8_and15, w64 ((x.toNat : Int) % 16) (by omega), w64 _ (by omega)]
  omega

/-- what is known in chapter 6 -/
def k6 : Inl := orInl kTurn k69
theorem k6_ok : InlOk Try.prog k6 := orInl_ok kTurn_ok k69_ok
end Go.Proofs.Ytoekncmggjhmjaa

/- Reckoned on each of its ways. (Printed by wip/tools/gen.py from wip/sym/XSGd.lean for the seat of chapters 6 to 9.) -/
namespace Go.Proofs.Ytoekncmggjhmjaa
open Go.RowKit

theorem ip4Good_tos (tos : Int) (id : Int) (flags : Int) (part : Int) (ttl : Int) (proto : Int) (f0 : Int) (f1 : Int) (f2 : Int) (f3 : Int) (t0 : Int) (t1 : Int) (t2 : Int) (t3 : Int) (opts : List UInt8) (body : List UInt8) : outT k69 [(94, { op := [(1, 7, .br false)], gd := [(1, 4, false), (1, 5, false), (1, 6, false)] }),
   (105, { op := [(1, 6, .mrg)], sp := [(1, 3), (1, 4), (1, 5)] })] Try.prog 94 [AV.agg [AV.val (Value.int IntKind.i64 tos), AV.val (Value.int IntKind.i64 id), AV.val (Value.int IntKind.i64 flags), AV.val (Value.int IntKind.i64 part), AV.val (Value.int IntKind.i64 ttl), AV.val (Value.int IntKind.i64 proto), AV.val (Value.int IntKind.u8 f0), AV.val (Value.int IntKind.u8 f1), AV.val (Value.int IntKind.u8 f2), AV.val (Value.int IntKind.u8 f3), AV.val (Value.int IntKind.u8 t0), AV.val (Value.int IntKind.u8 t1), AV.val (Value.int IntKind.u8 t2), AV.val (Value.int IntKind.u8 t3), AV.bytes opts, AV.bytes body]] [] 0 =
   some (AV.val (Value.bool false), [], 53,
   [decide (tos ≥ (0 : Int)) = true → decide (tos ≥ (0 : Int)) = true,
   decide (tos ≥ (0 : Int)) = true → decide (tos ≥ (0 : Int)) = true,
   decide (tos ≥ (0 : Int)) = true → decide (tos ≥ (0 : Int)) = true,
   (bif decide (tos ≥ (0 : Int)) then decide (tos ≤ (255 : Int)) else false) = false,
   (bif decide (tos ≥ (0 : Int)) then decide (tos ≤ (255 : Int)) else false) = false,
   (bif decide (tos ≥ (0 : Int)) then decide (tos ≤ (255 : Int)) else false) = false,
   (bif decide (tos ≥ (0 : Int)) then decide (tos ≤ (255 : Int)) else false) = false]) := by kernel_rfl

theorem ip4Good_id (tos : Int) (id : Int) (flags : Int) (part : Int) (ttl : Int) (proto : Int) (f0 : Int) (f1 : Int) (f2 : Int) (f3 : Int) (t0 : Int) (t1 : Int) (t2 : Int) (t3 : Int) (opts : List UInt8) (body : List UInt8) : outT k69 [(94, { op := [(1, 7, .br true), (1, 12, .br false)], gd := [(1, 4, true), (1, 5, true), (1, 6, true), (1, 9, false), (1, 10, false), (1, 11, false)] }),
   (105, { op := [(1, 6, .mrg)], sp := [(1, 3), (1, 4), (1, 5)] })] Try.prog 94 [AV.agg [AV.val (Value.int IntKind.i64 tos), AV.val (Value.int IntKind.i64 id), AV.val (Value.int IntKind.i64 flags), AV.val (Value.int IntKind.i64 part), AV.val (Value.int IntKind.i64 ttl), AV.val (Value.int IntKind.i64 proto), AV.val (Value.int IntKind.u8 f0), AV.val (Value.int IntKind.u8 f1), AV.val (Value.int IntKind.u8 f2), AV.val (Value.int IntKind.u8 f3), AV.val (Value.int IntKind.u8 t0), AV.val (Value.int IntKind.u8 t1), AV.val (Value.int IntKind.u8 t2), AV.val (Value.int IntKind.u8 t3), AV.bytes opts, AV.bytes body]] [] 0 =
   some (AV.val (Value.bool false), [], 62,
   [decide (tos ≥ (0 : Int)) = true → decide (tos ≥ (0 : Int)) = true,
   decide (tos ≥ (0 : Int)) = true → decide (tos ≥ (0 : Int)) = true,
   decide (tos ≥ (0 : Int)) = true → decide (tos ≥ (0 : Int)) = true,
   (bif decide (tos ≥ (0 : Int)) then decide (tos ≤ (255 : Int)) else false) = true,
   (bif decide (tos ≥ (0 : Int)) then decide (tos ≤ (255 : Int)) else false) = true,
   (bif decide (tos ≥ (0 : Int)) then decide (tos ≤ (255 : Int)) else false) = true,
   decide (id ≥ (0 : Int)) = true → decide (id ≥ (0 : Int)) = true,
   decide (id ≥ (0 : Int)) = true → decide (id ≥ (0 : Int)) = true,
   decide (id ≥ (0 : Int)) = true → decide (id ≥ (0 : Int)) = true,
   (bif decide (tos ≥ (0 : Int)) then decide (tos ≤ (255 : Int)) else false) = true,
   (bif decide (id ≥ (0 : Int)) then decide (id ≤ (65535 : Int)) else false) = false,
   (bif decide (id ≥ (0 : Int)) then decide (id ≤ (65535 : Int)) else false) = false,
   (bif decide (id ≥ (0 : Int)) then decide (id ≤ (65535 : Int)) else false) = false,
   (bif decide (id ≥ (0 : Int)) then decide (id ≤ (65535 : Int)) else false) = false]) := by kernel_rfl

theorem ip4Good_flags (tos : Int) (id : Int) (flags : Int) (part : Int) (ttl : Int) (proto : Int) (f0 : Int) (f1 : Int) (f2 : Int) (f3 : Int) (t0 : Int) (t1 : Int) (t2 : Int) (t3 : Int) (opts : List UInt8) (body : List UInt8) : outT k69 [(94, { op := [(1, 7, .br true), (1, 12, .br true), (1, 17, .br false)], gd := [(1, 4, true), (1, 5, true), (1, 6, true), (1, 9, true), (1, 10, true), (1, 11, true), (1, 14, false), (1, 15, false), (1, 16, false)] }),
   (105, { op := [(1, 6, .mrg)], sp := [(1, 3), (1, 4), (1, 5)] })] Try.prog 94 [AV.agg [AV.val (Value.int IntKind.i64 tos), AV.val (Value.int IntKind.i64 id), AV.val (Value.int IntKind.i64 flags), AV.val (Value.int IntKind.i64 part), AV.val (Value.int IntKind.i64 ttl), AV.val (Value.int IntKind.i64 proto), AV.val (Value.int IntKind.u8 f0), AV.val (Value.int IntKind.u8 f1), AV.val (Value.int IntKind.u8 f2), AV.val (Value.int IntKind.u8 f3), AV.val (Value.int IntKind.u8 t0), AV.val (Value.int IntKind.u8 t1), AV.val (Value.int IntKind.u8 t2), AV.val (Value.int IntKind.u8 t3), AV.bytes opts, AV.bytes body]] [] 0 =
   some (AV.val (Value.bool false), [], 71,
   [decide (tos ≥ (0 : Int)) = true → decide (tos ≥ (0 : Int)) = true,
   decide (tos ≥ (0 : Int)) = true → decide (tos ≥ (0 : Int)) = true,
   decide (tos ≥ (0 : Int)) = true → decide (tos ≥ (0 : Int)) = true,
   (bif decide (tos ≥ (0 : Int)) then decide (tos ≤ (255 : Int)) else false) = true,
   (bif decide (tos ≥ (0 : Int)) then decide (tos ≤ (255 : Int)) else false) = true,
   (bif decide (tos ≥ (0 : Int)) then decide (tos ≤ (255 : Int)) else false) = true,
   decide (id ≥ (0 : Int)) = true → decide (id ≥ (0 : Int)) = true,
   decide (id ≥ (0 : Int)) = true → decide (id ≥ (0 : Int)) = true,
   decide (id ≥ (0 : Int)) = true → decide (id ≥ (0 : Int)) = true,
   (bif decide (tos ≥ (0 : Int)) then decide (tos ≤ (255 : Int)) else false) = true,
   (bif decide (id ≥ (0 : Int)) then decide (id ≤ (65535 : Int)) else false) = true,
   (bif decide (id ≥ (0 : Int)) then decide (id ≤ (65535 : Int)) else false) = true,
   (bif decide (id ≥ (0 : Int)) then decide (id ≤ (65535 : Int)) else false) = true,
   decide (flags ≥ (0 : Int)) = true → decide (flags ≥ (0 : Int)) = true,
   decide (flags ≥ (0 : Int)) = true → decide (flags ≥ (0 : Int)) = true,
   decide (flags ≥ (0 : Int)) = true → decide (flags ≥ (0 : Int)) = true,
   (bif decide (id ≥ (0 : Int)) then decide (id ≤ (65535 : Int)) else false) = true,
   (bif decide (flags ≥ (0 : Int)) then decide (flags ≤ (7 : Int)) else false) = false,
   (bif decide (flags ≥ (0 : Int)) then decide (flags ≤ (7 : Int)) else false) = false,
   (bif decide (flags ≥ (0 : Int)) then decide (flags ≤ (7 : Int)) else false) = false,
   (bif decide (flags ≥ (0 : Int)) then decide (flags ≤ (7 : Int)) else false) = false]) := by kernel_rfl

theorem ip4Good_part (tos : Int) (id : Int) (flags : Int) (part : Int) (ttl : Int) (proto : Int) (f0 : Int) (f1 : Int) (f2 : Int) (f3 : Int) (t0 : Int) (t1 : Int) (t2 : Int) (t3 : Int) (opts : List UInt8) (body : List UInt8) : outT k69 [(94, { op := [(1, 7, .br true), (1, 12, .br true), (1, 17, .br true), (1, 22, .br false)], gd := [(1, 4, true), (1, 5, true), (1, 6, true), (1, 9, true), (1, 10, true), (1, 11, true), (1, 14, true), (1, 15, true), (1, 16, true), (1, 19, false), (1, 20, false), (1, 21, false)] }),
   (105, { op := [(1, 6, .mrg)], sp := [(1, 3), (1, 4), (1, 5)] })] Try.prog 94 [AV.agg [AV.val (Value.int IntKind.i64 tos), AV.val (Value.int IntKind.i64 id), AV.val (Value.int IntKind.i64 flags), AV.val (Value.int IntKind.i64 part), AV.val (Value.int IntKind.i64 ttl), AV.val (Value.int IntKind.i64 proto), AV.val (Value.int IntKind.u8 f0), AV.val (Value.int IntKind.u8 f1), AV.val (Value.int IntKind.u8 f2), AV.val (Value.int IntKind.u8 f3), AV.val (Value.int IntKind.u8 t0), AV.val (Value.int IntKind.u8 t1), AV.val (Value.int IntKind.u8 t2), AV.val (Value.int IntKind.u8 t3), AV.bytes opts, AV.bytes body]] [] 0 =
   some (AV.val (Value.bool false), [], 80,
   [decide (tos ≥ (0 : Int)) = true → decide (tos ≥ (0 : Int)) = true,
   decide (tos ≥ (0 : Int)) = true → decide (tos ≥ (0 : Int)) = true,
   decide (tos ≥ (0 : Int)) = true → decide (tos ≥ (0 : Int)) = true,
   (bif decide (tos ≥ (0 : Int)) then decide (tos ≤ (255 : Int)) else false) = true,
   (bif decide (tos ≥ (0 : Int)) then decide (tos ≤ (255 : Int)) else false) = true,
   (bif decide (tos ≥ (0 : Int)) then decide (tos ≤ (255 : Int)) else false) = true,
   decide (id ≥ (0 : Int)) = true → decide (id ≥ (0 : Int)) = true,
   decide (id ≥ (0 : Int)) = true → decide (id ≥ (0 : Int)) = true,
   decide (id ≥ (0 : Int)) = true → decide (id ≥ (0 : Int)) = true,
   (bif decide (tos ≥ (0 : Int)) then decide (tos ≤ (255 : Int)) else false) = true,
   (bif decide (id ≥ (0 : Int)) then decide (id ≤ (65535 : Int)) else false) = true,
   (bif decide (id ≥ (0 : Int)) then decide (id ≤ (65535 : Int)) else false) = true,
   (bif decide (id ≥ (0 : Int)) then decide (id ≤ (65535 : Int)) else false) = true,
   decide (flags ≥ (0 : Int)) = true → decide (flags ≥ (0 : Int)) = true,
   decide (flags ≥ (0 : Int)) = true → decide (flags ≥ (0 : Int)) = true,
   decide (flags ≥ (0 : Int)) = true → decide (flags ≥ (0 : Int)) = true,
   (bif decide (id ≥ (0 : Int)) then decide (id ≤ (65535 : Int)) else false) = true,
   (bif decide (flags ≥ (0 : Int)) then decide (flags ≤ (7 : Int)) else false) = true,
   (bif decide (flags ≥ (0 : Int)) then decide (flags ≤ (7 : Int)) else false) = true,
   (bif decide (flags ≥ (0 : Int)) then decide (flags ≤ (7 : Int)) else false) = true,
   decide (part ≥ (0 : Int)) = true → decide (part ≥ (0 : Int)) = true,
   decide (part ≥ (0 : Int)) = true → decide (part ≥ (0 : Int)) = true,
   decide (part ≥ (0 : Int)) = true → decide (part ≥ (0 : Int)) = true,
   (bif decide (flags ≥ (0 : Int)) then decide (flags ≤ (7 : Int)) else false) = true,
   (bif decide (part ≥ (0 : Int)) then decide (part ≤ (8191 : Int)) else false) = false,
   (bif decide (part ≥ (0 : Int)) then decide (part ≤ (8191 : Int)) else false) = false,
   (bif decide (part ≥ (0 : Int)) then decide (part ≤ (8191 : Int)) else false) = false,
   (bif decide (part ≥ (0 : Int)) then decide (part ≤ (8191 : Int)) else false) = false]) := by kernel_rfl

theorem ip4Good_ttl (tos : Int) (id : Int) (flags : Int) (part : Int) (ttl : Int) (proto : Int) (f0 : Int) (f1 : Int) (f2 : Int) (f3 : Int) (t0 : Int) (t1 : Int) (t2 : Int) (t3 : Int) (opts : List UInt8) (body : List UInt8) : outT k69 [(94, { op := [(1, 7, .br true), (1, 12, .br true), (1, 17, .br true), (1, 22, .br true), (1, 27, .br false)], gd := [(1, 4, true), (1, 5, true), (1, 6, true), (1, 9, true), (1, 10, true), (1, 11, true), (1, 14, true), (1, 15, true), (1, 16, true), (1, 19, true), (1, 20, true), (1, 21, true), (1, 24, false), (1, 25, false), (1, 26, false)] }),
   (105, { op := [(1, 6, .mrg)], sp := [(1, 3), (1, 4), (1, 5)] })] Try.prog 94 [AV.agg [AV.val (Value.int IntKind.i64 tos), AV.val (Value.int IntKind.i64 id), AV.val (Value.int IntKind.i64 flags), AV.val (Value.int IntKind.i64 part), AV.val (Value.int IntKind.i64 ttl), AV.val (Value.int IntKind.i64 proto), AV.val (Value.int IntKind.u8 f0), AV.val (Value.int IntKind.u8 f1), AV.val (Value.int IntKind.u8 f2), AV.val (Value.int IntKind.u8 f3), AV.val (Value.int IntKind.u8 t0), AV.val (Value.int IntKind.u8 t1), AV.val (Value.int IntKind.u8 t2), AV.val (Value.int IntKind.u8 t3), AV.bytes opts, AV.bytes body]] [] 0 =
   some (AV.val (Value.bool false), [], 89,
   [decide (tos ≥ (0 : Int)) = true → decide (tos ≥ (0 : Int)) = true,
   decide (tos ≥ (0 : Int)) = true → decide (tos ≥ (0 : Int)) = true,
   decide (tos ≥ (0 : Int)) = true → decide (tos ≥ (0 : Int)) = true,
   (bif decide (tos ≥ (0 : Int)) then decide (tos ≤ (255 : Int)) else false) = true,
   (bif decide (tos ≥ (0 : Int)) then decide (tos ≤ (255 : Int)) else false) = true,
   (bif decide (tos ≥ (0 : Int)) then decide (tos ≤ (255 : Int)) else false) = true,
   decide (id ≥ (0 : Int)) = true → decide (id ≥ (0 : Int)) = true,
   decide (id ≥ (0 : Int)) = true → decide (id ≥ (0 : Int)) = true,
   decide (id ≥ (0 : Int)) = true → decide (id ≥ (0 : Int)) = true,
   (bif decide (tos ≥ (0 : Int)) then decide (tos ≤ (255 : Int)) else false) = true,
   (bif decide (id ≥ (0 : Int)) then decide (id ≤ (65535 : Int)) else false) = true,
   (bif decide (id ≥ (0 : Int)) then decide (id ≤ (65535 : Int)) else false) = true,
   (bif decide (id ≥ (0 : Int)) then decide (id ≤ (65535 : Int)) else false) = true,
   decide (flags ≥ (0 : Int)) = true → decide (flags ≥ (0 : Int)) = true,
   decide (flags ≥ (0 : Int)) = true → decide (flags ≥ (0 : Int)) = true,
   decide (flags ≥ (0 : Int)) = true → decide (flags ≥ (0 : Int)) = true,
   (bif decide (id ≥ (0 : Int)) then decide (id ≤ (65535 : Int)) else false) = true,
   (bif decide (flags ≥ (0 : Int)) then decide (flags ≤ (7 : Int)) else false) = true,
   (bif decide (flags ≥ (0 : Int)) then decide (flags ≤ (7 : Int)) else false) = true,
   (bif decide (flags ≥ (0 : Int)) then decide (flags ≤ (7 : Int)) else false) = true,
   decide (part ≥ (0 : Int)) = true → decide (part ≥ (0 : Int)) = true,
   decide (part ≥ (0 : Int)) = true → decide (part ≥ (0 : Int)) = true,
   decide (part ≥ (0 : Int)) = true → decide (part ≥ (0 : Int)) = true,
   (bif decide (flags ≥ (0 : Int)) then decide (flags ≤ (7 : Int)) else false) = true,
   (bif decide (part ≥ (0 : Int)) then decide (part ≤ (8191 : Int)) else false) = true,
   (bif decide (part ≥ (0 : Int)) then decide (part ≤ (8191 : Int)) else false) = true,
   (bif decide (part ≥ (0 : Int)) then decide (part ≤ (8191 : Int)) else false) = true,
   decide (ttl ≥ (0 : Int)) = true → decide (ttl ≥ (0 : Int)) = true,
   decide (ttl ≥ (0 : Int)) = true → decide (ttl ≥ (0 : Int)) = true,
   decide (ttl ≥ (0 : Int)) = true → decide (ttl ≥ (0 : Int)) = true,
   (bif decide (part ≥ (0 : Int)) then decide (part ≤ (8191 : Int)) else false) = true,
   (bif decide (ttl ≥ (0 : Int)) then decide (ttl ≤ (255 : Int)) else false) = false,
   (bif decide (ttl ≥ (0 : Int)) then decide (ttl ≤ (255 : Int)) else false) = false,
   (bif decide (ttl ≥ (0 : Int)) then decide (ttl ≤ (255 : Int)) else false) = false,
   (bif decide (ttl ≥ (0 : Int)) then decide (ttl ≤ (255 : Int)) else false) = false]) := by kernel_rfl

theorem ip4Good_proto (tos : Int) (id : Int) (flags : Int) (part : Int) (ttl : Int) (proto : Int) (f0 : Int) (f1 : Int) (f2 : Int) (f3 : Int) (t0 : Int) (t1 : Int) (t2 : Int) (t3 : Int) (opts : List UInt8) (body : List UInt8) : outT k69 [(94, { op := [(1, 7, .br true), (1, 12, .br true), (1, 17, .br true), (1, 22, .br true), (1, 27, .br true), (1, 33, .br false)], gd := [(1, 4, true), (1, 5, true), (1, 6, true), (1, 9, true), (1, 10, true), (1, 11, true), (1, 14, true), (1, 15, true), (1, 16, true), (1, 19, true), (1, 20, true), (1, 21, true), (1, 24, true), (1, 25, true), (1, 26, true), (1, 29, false), (1, 30, false), (1, 31, false), (1, 32, false)] }),
   (105, { op := [(1, 6, .mrg)], sp := [(1, 3), (1, 4), (1, 5)] })] Try.prog 94 [AV.agg [AV.val (Value.int IntKind.i64 tos), AV.val (Value.int IntKind.i64 id), AV.val (Value.int IntKind.i64 flags), AV.val (Value.int IntKind.i64 part), AV.val (Value.int IntKind.i64 ttl), AV.val (Value.int IntKind.i64 proto), AV.val (Value.int IntKind.u8 f0), AV.val (Value.int IntKind.u8 f1), AV.val (Value.int IntKind.u8 f2), AV.val (Value.int IntKind.u8 f3), AV.val (Value.int IntKind.u8 t0), AV.val (Value.int IntKind.u8 t1), AV.val (Value.int IntKind.u8 t2), AV.val (Value.int IntKind.u8 t3), AV.bytes opts, AV.bytes body]] [] 0 =
   some (AV.val (Value.bool false), [], 98,
   [decide (tos ≥ (0 : Int)) = true → decide (tos ≥ (0 : Int)) = true,
   decide (tos ≥ (0 : Int)) = true → decide (tos ≥ (0 : Int)) = true,
   decide (tos ≥ (0 : Int)) = true → decide (tos ≥ (0 : Int)) = true,
   (bif decide (tos ≥ (0 : Int)) then decide (tos ≤ (255 : Int)) else false) = true,
   (bif decide (tos ≥ (0 : Int)) then decide (tos ≤ (255 : Int)) else false) = true,
   (bif decide (tos ≥ (0 : Int)) then decide (tos ≤ (255 : Int)) else false) = true,
   decide (id ≥ (0 : Int)) = true → decide (id ≥ (0 : Int)) = true,
   decide (id ≥ (0 : Int)) = true → decide (id ≥ (0 : Int)) = true,
   decide (id ≥ (0 : Int)) = true → decide (id ≥ (0 : Int)) = true,
   (bif decide (tos ≥ (0 : Int)) then decide (tos ≤ (255 : Int)) else false) = true,
   (bif decide (id ≥ (0 : Int)) then decide (id ≤ (65535 : Int)) else false) = true,
   (bif decide (id ≥ (0 : Int)) then decide (id ≤ (65535 : Int)) else false) = true,
   (bif decide (id ≥ (0 : Int)) then decide (id ≤ (65535 : Int)) else false) = true,
   decide (flags ≥ (0 : Int)) = true → decide (flags ≥ (0 : Int)) = true,
   decide (flags ≥ (0 : Int)) = true → decide (flags ≥ (0 : Int)) = true,
   decide (flags ≥ (0 : Int)) = true → decide (flags ≥ (0 : Int)) = true,
   (bif decide (id ≥ (0 : Int)) then decide (id ≤ (65535 : Int)) else false) = true,
   (bif decide (flags ≥ (0 : Int)) then decide (flags ≤ (7 : Int)) else false) = true,
   (bif decide (flags ≥ (0 : Int)) then decide (flags ≤ (7 : Int)) else false) = true,
   (bif decide (flags ≥ (0 : Int)) then decide (flags ≤ (7 : Int)) else false) = true,
   decide (part ≥ (0 : Int)) = true → decide (part ≥ (0 : Int)) = true,
   decide (part ≥ (0 : Int)) = true → decide (part ≥ (0 : Int)) = true,
   decide (part ≥ (0 : Int)) = true → decide (part ≥ (0 : Int)) = true,
   (bif decide (flags ≥ (0 : Int)) then decide (flags ≤ (7 : Int)) else false) = true,
   (bif decide (part ≥ (0 : Int)) then decide (part ≤ (8191 : Int)) else false) = true,
   (bif decide (part ≥ (0 : Int)) then decide (part ≤ (8191 : Int)) else false) = true,
   (bif decide (part ≥ (0 : Int)) then decide (part ≤ (8191 : Int)) else false) = true,
   decide (ttl ≥ (0 : Int)) = true → decide (ttl ≥ (0 : Int)) = true,
   decide (ttl ≥ (0 : Int)) = true → decide (ttl ≥ (0 : Int)) = true,
   decide (ttl ≥ (0 : Int)) = true → decide (ttl ≥ (0 : Int)) = true,
   (bif decide (part ≥ (0 : Int)) then decide (part ≤ (8191 : Int)) else false) = true,
   (bif decide (ttl ≥ (0 : Int)) then decide (ttl ≤ (255 : Int)) else false) = true,
   (bif decide (ttl ≥ (0 : Int)) then decide (ttl ≤ (255 : Int)) else false) = true,
   (bif decide (ttl ≥ (0 : Int)) then decide (ttl ≤ (255 : Int)) else false) = true,
   decide (proto ≥ (0 : Int)) = true → decide (proto ≥ (0 : Int)) = true,
   decide (proto ≥ (0 : Int)) = true → decide (proto ≥ (0 : Int)) = true,
   decide (proto ≥ (0 : Int)) = true → decide (proto ≥ (0 : Int)) = true,
   (bif decide (ttl ≥ (0 : Int)) then decide (ttl ≤ (255 : Int)) else false) = true,
   (bif decide (proto ≥ (0 : Int)) then decide (proto ≤ (255 : Int)) else false) = false,
   (bif decide (proto ≥ (0 : Int)) then decide (proto ≤ (255 : Int)) else false) = false,
   (bif decide (proto ≥ (0 : Int)) then decide (proto ≤ (255 : Int)) else false) = false,
   (bif decide (proto ≥ (0 : Int)) then decide (proto ≤ (255 : Int)) else false) = false,
   (bif decide (proto ≥ (0 : Int)) then decide (proto ≤ (255 : Int)) else false) = false]) := by kernel_rfl

theorem ip4Good_opts (tos : Int) (id : Int) (flags : Int) (part : Int) (ttl : Int) (proto : Int) (f0 : Int) (f1 : Int) (f2 : Int) (f3 : Int) (t0 : Int) (t1 : Int) (t2 : Int) (t3 : Int) (opts : List UInt8) (body : List UInt8) : outT k69 [(94, { op := [(1, 7, .br true), (1, 12, .br true), (1, 17, .br true), (1, 22, .br true), (1, 27, .br true), (1, 33, .br true), (1, 40, .br false)], gd := [(1, 4, true), (1, 5, true), (1, 6, true), (1, 9, true), (1, 10, true), (1, 11, true), (1, 14, true), (1, 15, true), (1, 16, true), (1, 19, true), (1, 20, true), (1, 21, true), (1, 24, true), (1, 25, true), (1, 26, true), (1, 29, true), (1, 30, true), (1, 31, true), (1, 32, true), (1, 35, false), (1, 36, false), (1, 37, false), (1, 38, false), (1, 39, false)] }),
   (105, { op := [(1, 6, .mrg)], sp := [(1, 3), (1, 4), (1, 5)] })] Try.prog 94 [AV.agg [AV.val (Value.int IntKind.i64 tos), AV.val (Value.int IntKind.i64 id), AV.val (Value.int IntKind.i64 flags), AV.val (Value.int IntKind.i64 part), AV.val (Value.int IntKind.i64 ttl), AV.val (Value.int IntKind.i64 proto), AV.val (Value.int IntKind.u8 f0), AV.val (Value.int IntKind.u8 f1), AV.val (Value.int IntKind.u8 f2), AV.val (Value.int IntKind.u8 f3), AV.val (Value.int IntKind.u8 t0), AV.val (Value.int IntKind.u8 t1), AV.val (Value.int IntKind.u8 t2), AV.val (Value.int IntKind.u8 t3), AV.bytes opts, AV.bytes body]] [] 0 =
   some (AV.val (Value.bool false), [], 98,
   [decide (tos ≥ (0 : Int)) = true → decide (tos ≥ (0 : Int)) = true,
   decide (tos ≥ (0 : Int)) = true → decide (tos ≥ (0 : Int)) = true,
   decide (tos ≥ (0 : Int)) = true → decide (tos ≥ (0 : Int)) = true,
   (bif decide (tos ≥ (0 : Int)) then decide (tos ≤ (255 : Int)) else false) = true,
   (bif decide (tos ≥ (0 : Int)) then decide (tos ≤ (255 : Int)) else false) = true,
   (bif decide (tos ≥ (0 : Int)) then decide (tos ≤ (255 : Int)) else false) = true,
   decide (id ≥ (0 : Int)) = true → decide (id ≥ (0 : Int)) = true,
   decide (id ≥ (0 : Int)) = true → decide (id ≥ (0 : Int)) = true,
   decide (id ≥ (0 : Int)) = true → decide (id ≥ (0 : Int)) = true,
   (bif decide (tos ≥ (0 : Int)) then decide (tos ≤ (255 : Int)) else false) = true,
   (bif decide (id ≥ (0 : Int)) then decide (id ≤ (65535 : Int)) else false) = true,
   (bif decide (id ≥ (0 : Int)) then decide (id ≤ (65535 : Int)) else false) = true,
   (bif decide (id ≥ (0 : Int)) then decide (id ≤ (65535 : Int)) else false) = true,
   decide (flags ≥ (0 : Int)) = true → decide (flags ≥ (0 : Int)) = true,
   decide (flags ≥ (0 : Int)) = true → decide (flags ≥ (0 : Int)) = true,
   decide (flags ≥ (0 : Int)) = true → decide (flags ≥ (0 : Int)) = true,
   (bif decide (id ≥ (0 : Int)) then decide (id ≤ (65535 : Int)) else false) = true,
   (bif decide (flags ≥ (0 : Int)) then decide (flags ≤ (7 : Int)) else false) = true,
   (bif decide (flags ≥ (0 : Int)) then decide (flags ≤ (7 : Int)) else false) = true,
   (bif decide (flags ≥ (0 : Int)) then decide (flags ≤ (7 : Int)) else false) = true,
   decide (part ≥ (0 : Int)) = true → decide (part ≥ (0 : Int)) = true,
   decide (part ≥ (0 : Int)) = true → decide (part ≥ (0 : Int)) = true,
   decide (part ≥ (0 : Int)) = true → decide (part ≥ (0 : Int)) = true,
   (bif decide (flags ≥ (0 : Int)) then decide (flags ≤ (7 : Int)) else false) = true,
   (bif decide (part ≥ (0 : Int)) then decide (part ≤ (8191 : Int)) else false) = true,
   (bif decide (part ≥ (0 : Int)) then decide (part ≤ (8191 : Int)) else false) = true,
   (bif decide (part ≥ (0 : Int)) then decide (part ≤ (8191 : Int)) else false) = true,
   decide (ttl ≥ (0 : Int)) = true → decide (ttl ≥ (0 : Int)) = true,
   decide (ttl ≥ (0 : Int)) = true → decide (ttl ≥ (0 : Int)) = true,
   decide (ttl ≥ (0 : Int)) = true → decide (ttl ≥ (0 : Int)) = true,
   (bif decide (part ≥ (0 : Int)) then decide (part ≤ (8191 : Int)) else false) = true,
   (bif decide (ttl ≥ (0 : Int)) then decide (ttl ≤ (255 : Int)) else false) = true,
   (bif decide (ttl ≥ (0 : Int)) then decide (ttl ≤ (255 : Int)) else false) = true,
   (bif decide (ttl ≥ (0 : Int)) then decide (ttl ≤ (255 : Int)) else false) = true,
   decide (proto ≥ (0 : Int)) = true → decide (proto ≥ (0 : Int)) = true,
   decide (proto ≥ (0 : Int)) = true → decide (proto ≥ (0 : Int)) = true,
   decide (proto ≥ (0 : Int)) = true → decide (proto ≥ (0 : Int)) = true,
   (bif decide (ttl ≥ (0 : Int)) then decide (ttl ≤ (255 : Int)) else false) = true,
   (bif decide (proto ≥ (0 : Int)) then decide (proto ≤ (255 : Int)) else false) = true,
   (bif decide (proto ≥ (0 : Int)) then decide (proto ≤ (255 : Int)) else false) = true,
   (bif decide (proto ≥ (0 : Int)) then decide (proto ≤ (255 : Int)) else false) = true,
   (bif decide (proto ≥ (0 : Int)) then decide (proto ≤ (255 : Int)) else false) = true,
   (bif decide (proto ≥ (0 : Int)) then decide (proto ≤ (255 : Int)) else false) = true,
   decide ((↑(List.length opts) : Int) ≤ (40 : Int)) = false,
   decide ((↑(List.length opts) : Int) ≤ (40 : Int)) = false,
   decide ((↑(List.length opts) : Int) ≤ (40 : Int)) = false,
   decide ((↑(List.length opts) : Int) ≤ (40 : Int)) = false,
   decide ((↑(List.length opts) : Int) ≤ (40 : Int)) = false,
   decide ((↑(List.length opts) : Int) ≤ (40 : Int)) = false]) := by kernel_rfl

theorem ip4Good_opts4 (tos : Int) (id : Int) (flags : Int) (part : Int) (ttl : Int) (proto : Int) (f0 : Int) (f1 : Int) (f2 : Int) (f3 : Int) (t0 : Int) (t1 : Int) (t2 : Int) (t3 : Int) (opts : List UInt8) (body : List UInt8) : outT k69 [(94, { op := [(1, 7, .br true), (1, 12, .br true), (1, 17, .br true), (1, 22, .br true), (1, 27, .br true), (1, 33, .br true), (1, 40, .br true)], gd := [(1, 4, true), (1, 5, true), (1, 6, true), (1, 9, true), (1, 10, true), (1, 11, true), (1, 14, true), (1, 15, true), (1, 16, true), (1, 19, true), (1, 20, true), (1, 21, true), (1, 24, true), (1, 25, true), (1, 26, true), (1, 29, true), (1, 30, true), (1, 31, true), (1, 32, true), (1, 35, true), (1, 36, true), (1, 37, true), (1, 38, true), (1, 39, true)] }),
   (105, { op := [(1, 6, .mrg)], sp := [(1, 3), (1, 4), (1, 5)] })] Try.prog 94 [AV.agg [AV.val (Value.int IntKind.i64 tos), AV.val (Value.int IntKind.i64 id), AV.val (Value.int IntKind.i64 flags), AV.val (Value.int IntKind.i64 part), AV.val (Value.int IntKind.i64 ttl), AV.val (Value.int IntKind.i64 proto), AV.val (Value.int IntKind.u8 f0), AV.val (Value.int IntKind.u8 f1), AV.val (Value.int IntKind.u8 f2), AV.val (Value.int IntKind.u8 f3), AV.val (Value.int IntKind.u8 t0), AV.val (Value.int IntKind.u8 t1), AV.val (Value.int IntKind.u8 t2), AV.val (Value.int IntKind.u8 t3), AV.bytes opts, AV.bytes body]] [] 0 =
   some (AV.val (Value.bool (Int.tmod (↑(List.length opts) : Int) (4 : Int) == (0 : Int))), [], 98,
   [decide (tos ≥ (0 : Int)) = true → decide (tos ≥ (0 : Int)) = true,
   decide (tos ≥ (0 : Int)) = true → decide (tos ≥ (0 : Int)) = true,
   decide (tos ≥ (0 : Int)) = true → decide (tos ≥ (0 : Int)) = true,
   (bif decide (tos ≥ (0 : Int)) then decide (tos ≤ (255 : Int)) else false) = true,
   (bif decide (tos ≥ (0 : Int)) then decide (tos ≤ (255 : Int)) else false) = true,
   (bif decide (tos ≥ (0 : Int)) then decide (tos ≤ (255 : Int)) else false) = true,
   decide (id ≥ (0 : Int)) = true → decide (id ≥ (0 : Int)) = true,
   decide (id ≥ (0 : Int)) = true → decide (id ≥ (0 : Int)) = true,
   decide (id ≥ (0 : Int)) = true → decide (id ≥ (0 : Int)) = true,
   (bif decide (tos ≥ (0 : Int)) then decide (tos ≤ (255 : Int)) else false) = true,
   (bif decide (id ≥ (0 : Int)) then decide (id ≤ (65535 : Int)) else false) = true,
   (bif decide (id ≥ (0 : Int)) then decide (id ≤ (65535 : Int)) else false) = true,
   (bif decide (id ≥ (0 : Int)) then decide (id ≤ (65535 : Int)) else false) = true,
   decide (flags ≥ (0 : Int)) = true → decide (flags ≥ (0 : Int)) = true,
   decide (flags ≥ (0 : Int)) = true → decide (flags ≥ (0 : Int)) = true,
   decide (flags ≥ (0 : Int)) = true → decide (flags ≥ (0 : Int)) = true,
   (bif decide (id ≥ (0 : Int)) then decide (id ≤ (65535 : Int)) else false) = true,
   (bif decide (flags ≥ (0 : Int)) then decide (flags ≤ (7 : Int)) else false) = true,
   (bif decide (flags ≥ (0 : Int)) then decide (flags ≤ (7 : Int)) else false) = true,
   (bif decide (flags ≥ (0 : Int)) then decide (flags ≤ (7 : Int)) else false) = true,
   decide (part ≥ (0 : Int)) = true → decide (part ≥ (0 : Int)) = true,
   decide (part ≥ (0 : Int)) = true → decide (part ≥ (0 : Int)) = true,
   decide (part ≥ (0 : Int)) = true → decide (part ≥ (0 : Int)) = true,
   (bif decide (flags ≥ (0 : Int)) then decide (flags ≤ (7 : Int)) else false) = true,
   (bif decide (part ≥ (0 : Int)) then decide (part ≤ (8191 : Int)) else false) = true,
   (bif decide (part ≥ (0 : Int)) then decide (part ≤ (8191 : Int)) else false) = true,
   (bif decide (part ≥ (0 : Int)) then decide (part ≤ (8191 : Int)) else false) = true,
   decide (ttl ≥ (0 : Int)) = true → decide (ttl ≥ (0 : Int)) = true,
   decide (ttl ≥ (0 : Int)) = true → decide (ttl ≥ (0 : Int)) = true,
   decide (ttl ≥ (0 : Int)) = true → decide (ttl ≥ (0 : Int)) = true,
   (bif decide (part ≥ (0 : Int)) then decide (part ≤ (8191 : Int)) else false) = true,
   (bif decide (ttl ≥ (0 : Int)) then decide (ttl ≤ (255 : Int)) else false) = true,
   (bif decide (ttl ≥ (0 : Int)) then decide (ttl ≤ (255 : Int)) else false) = true,
   (bif decide (ttl ≥ (0 : Int)) then decide (ttl ≤ (255 : Int)) else false) = true,
   decide (proto ≥ (0 : Int)) = true → decide (proto ≥ (0 : Int)) = true,
   decide (proto ≥ (0 : Int)) = true → decide (proto ≥ (0 : Int)) = true,
   decide (proto ≥ (0 : Int)) = true → decide (proto ≥ (0 : Int)) = true,
   (bif decide (ttl ≥ (0 : Int)) then decide (ttl ≤ (255 : Int)) else false) = true,
   (bif decide (proto ≥ (0 : Int)) then decide (proto ≤ (255 : Int)) else false) = true,
   (bif decide (proto ≥ (0 : Int)) then decide (proto ≤ (255 : Int)) else false) = true,
   (bif decide (proto ≥ (0 : Int)) then decide (proto ≤ (255 : Int)) else false) = true,
   (bif decide (proto ≥ (0 : Int)) then decide (proto ≤ (255 : Int)) else false) = true,
   (bif decide (proto ≥ (0 : Int)) then decide (proto ≤ (255 : Int)) else false) = true,
   decide ((↑(List.length opts) : Int) ≤ (40 : Int)) = true,
   decide ((↑(List.length opts) : Int) ≤ (40 : Int)) = true,
   decide ((↑(List.length opts) : Int) ≤ (40 : Int)) = true,
   decide ((↑(List.length opts) : Int) ≤ (40 : Int)) = true,
   decide ((↑(List.length opts) : Int) ≤ (40 : Int)) = true,
   decide ((↑(List.length opts) : Int) ≤ (40 : Int)) = true]) := by kernel_rfl

theorem ip4Good_ok (tos : Int) (id : Int) (flags : Int) (part : Int) (ttl : Int) (proto : Int) (f0 : Int) (f1 : Int) (f2 : Int) (f3 : Int) (t0 : Int) (t1 : Int) (t2 : Int) (t3 : Int) (opts : List UInt8) (body : List UInt8) : outT k69 [(94, { op := [(1, 7, .br true), (1, 12, .br true), (1, 17, .br true), (1, 22, .br true), (1, 27, .br true), (1, 33, .br true), (1, 40, .br true)], gd := [(1, 4, true), (1, 5, true), (1, 6, true), (1, 9, true), (1, 10, true), (1, 11, true), (1, 14, true), (1, 15, true), (1, 16, true), (1, 19, true), (1, 20, true), (1, 21, true), (1, 24, true), (1, 25, true), (1, 26, true), (1, 29, true), (1, 30, true), (1, 31, true), (1, 32, true), (1, 35, true), (1, 36, true), (1, 37, true), (1, 38, true), (1, 39, true)] }),
   (105, { op := [(1, 6, .mrg)], sp := [(1, 3), (1, 4), (1, 5)] })] Try.prog 94 [AV.agg [AV.val (Value.int IntKind.i64 tos), AV.val (Value.int IntKind.i64 id), AV.val (Value.int IntKind.i64 flags), AV.val (Value.int IntKind.i64 part), AV.val (Value.int IntKind.i64 ttl), AV.val (Value.int IntKind.i64 proto), AV.val (Value.int IntKind.u8 f0), AV.val (Value.int IntKind.u8 f1), AV.val (Value.int IntKind.u8 f2), AV.val (Value.int IntKind.u8 f3), AV.val (Value.int IntKind.u8 t0), AV.val (Value.int IntKind.u8 t1), AV.val (Value.int IntKind.u8 t2), AV.val (Value.int IntKind.u8 t3), AV.bytes opts, AV.bytes body]] [] 0 =
   some (AV.val (Value.bool (Int.tmod (↑(List.length opts) : Int) (4 : Int) == (0 : Int))), [], 98,
   [decide (tos ≥ (0 : Int)) = true → decide (tos ≥ (0 : Int)) = true,
   decide (tos ≥ (0 : Int)) = true → decide (tos ≥ (0 : Int)) = true,
   decide (tos ≥ (0 : Int)) = true → decide (tos ≥ (0 : Int)) = true,
   (bif decide (tos ≥ (0 : Int)) then decide (tos ≤ (255 : Int)) else false) = true,
   (bif decide (tos ≥ (0 : Int)) then decide (tos ≤ (255 : Int)) else false) = true,
   (bif decide (tos ≥ (0 : Int)) then decide (tos ≤ (255 : Int)) else false) = true,
   decide (id ≥ (0 : Int)) = true → decide (id ≥ (0 : Int)) = true,
   decide (id ≥ (0 : Int)) = true → decide (id ≥ (0 : Int)) = true,
   decide (id ≥ (0 : Int)) = true → decide (id ≥ (0 : Int)) = true,
   (bif decide (tos ≥ (0 : Int)) then decide (tos ≤ (255 : Int)) else false) = true,
   (bif decide (id ≥ (0 : Int)) then decide (id ≤ (65535 : Int)) else false) = true,
   (bif decide (id ≥ (0 : Int)) then decide (id ≤ (65535 : Int)) else false) = true,
   (bif decide (id ≥ (0 : Int)) then decide (id ≤ (65535 : Int)) else false) = true,
   decide (flags ≥ (0 : Int)) = true → decide (flags ≥ (0 : Int)) = true,
   decide (flags ≥ (0 : Int)) = true → decide (flags ≥ (0 : Int)) = true,
   decide (flags ≥ (0 : Int)) = true → decide (flags ≥ (0 : Int)) = true,
   (bif decide (id ≥ (0 : Int)) then decide (id ≤ (65535 : Int)) else false) = true,
   (bif decide (flags ≥ (0 : Int)) then decide (flags ≤ (7 : Int)) else false) = true,
   (bif decide (flags ≥ (0 : Int)) then decide (flags ≤ (7 : Int)) else false) = true,
   (bif decide (flags ≥ (0 : Int)) then decide (flags ≤ (7 : Int)) else false) = true,
   decide (part ≥ (0 : Int)) = true → decide (part ≥ (0 : Int)) = true,
   decide (part ≥ (0 : Int)) = true → decide (part ≥ (0 : Int)) = true,
   decide (part ≥ (0 : Int)) = true → decide (part ≥ (0 : Int)) = true,
   (bif decide (flags ≥ (0 : Int)) then decide (flags ≤ (7 : Int)) else false) = true,
   (bif decide (part ≥ (0 : Int)) then decide (part ≤ (8191 : Int)) else false) = true,
   (bif decide (part ≥ (0 : Int)) then decide (part ≤ (8191 : Int)) else false) = true,
   (bif decide (part ≥ (0 : Int)) then decide (part ≤ (8191 : Int)) else false) = true,
   decide (ttl ≥ (0 : Int)) = true → decide (ttl ≥ (0 : Int)) = true,
   decide (ttl ≥ (0 : Int)) = true → decide (ttl ≥ (0 : Int)) = true,
   decide (ttl ≥ (0 : Int)) = true → decide (ttl ≥ (0 : Int)) = true,
   (bif decide (part ≥ (0 : Int)) then decide (part ≤ (8191 : Int)) else false) = true,
   (bif decide (ttl ≥ (0 : Int)) then decide (ttl ≤ (255 : Int)) else false) = true,
   (bif decide (ttl ≥ (0 : Int)) then decide (ttl ≤ (255 : Int)) else false) = true,
   (bif decide (ttl ≥ (0 : Int)) then decide (ttl ≤ (255 : Int)) else false) = true,
   decide (proto ≥ (0 : Int)) = true → decide (proto ≥ (0 : Int)) = true,
   decide (proto ≥ (0 : Int)) = true → decide (proto ≥ (0 : Int)) = true,
   decide (proto ≥ (0 : Int)) = true → decide (proto ≥ (0 : Int)) = true,
   (bif decide (ttl ≥ (0 : Int)) then decide (ttl ≤ (255 : Int)) else false) = true,
   (bif decide (proto ≥ (0 : Int)) then decide (proto ≤ (255 : Int)) else false) = true,
   (bif decide (proto ≥ (0 : Int)) then decide (proto ≤ (255 : Int)) else false) = true,
   (bif decide (proto ≥ (0 : Int)) then decide (proto ≤ (255 : Int)) else false) = true,
   (bif decide (proto ≥ (0 : Int)) then decide (proto ≤ (255 : Int)) else false) = true,
   (bif decide (proto ≥ (0 : Int)) then decide (proto ≤ (255 : Int)) else false) = true,
   decide ((↑(List.length opts) : Int) ≤ (40 : Int)) = true,
   decide ((↑(List.length opts) : Int) ≤ (40 : Int)) = true,
   decide ((↑(List.length opts) : Int) ≤ (40 : Int)) = true,
   decide ((↑(List.length opts) : Int) ≤ (40 : Int)) = true,
   decide ((↑(List.length opts) : Int) ≤ (40 : Int)) = true,
   decide ((↑(List.length opts) : Int) ≤ (40 : Int)) = true]) := by kernel_rfl
end Go.Proofs.Ytoekncmggjhmjaa

/- Whether a packet's numbers fit their places: known to the engine. -/
namespace Go.Proofs.Ytoekncmggjhmjaa
open Go.RowKit

def goodP (tos id flags part ttl proto : Int) (n : Nat) : Prop :=
  (0 ≤ tos ∧ tos ≤ 255) ∧ (0 ≤ id ∧ id ≤ 65535) ∧ (0 ≤ flags ∧ flags ≤ 7) ∧ (0 ≤ part ∧ part ≤ 8191) ∧ (0 ≤ ttl ∧ ttl ≤ 255) ∧ (0 ≤ proto ∧ proto ≤ 255) ∧ n ≤ 40 ∧ n % 4 = 0
instance (tos id flags part ttl proto : Int) (n : Nat) : Decidable (goodP tos id flags part ttl proto n) := by unfold goodP; infer_instance
def goodB (tos id flags part ttl proto : Int) (n : Nat) : Bool := decide (goodP tos id flags part ttl proto n)

def pktAV (tos id flags part ttl proto f0 f1 f2 f3 t0 t1 t2 t3 : Int) (opts body : List UInt8) : AV := .agg [.val (.int .i64 tos), .val (.int .i64 id), .val (.int .i64 flags), .val (.int .i64 part), .val (.int .i64 ttl), .val (.int .i64 proto), .val (.int .u8 f0), .val (.int .u8 f1), .val (.int .u8 f2), .val (.int .u8 f3), .val (.int .u8 t0), .val (.int .u8 t1), .val (.int .u8 t2), .val (.int .u8 t3), .bytes opts, .bytes body]

theorem ACall.to {P : Program} {g : FuncId} {xs : List AV} {L L' : List (Nat × AObj)} {nx nx' : Nat} {b c : Bool} (h : ACall P g xs L nx (.val (.bool b)) L' nx') (hb : b = c) : ACall P g xs L nx (.val (.bool c)) L' nx' := by
  rw [hb] at h; exact h

set_option maxHeartbeats 4000000 in
theorem good_c (tos id flags part ttl proto f0 f1 f2 f3 t0 t1 t2 t3 : Int) (opts body : List UInt8) : ∃ n1, n1 ≤ 500 ∧
    ACall Try.prog 94 [pktAV tos id flags part ttl proto f0 f1 f2 f3 t0 t1 t2 t3 opts body] [] 0 (.val (.bool (goodB tos id flags part ttl proto opts.length))) [] n1 := by
  have key : ∀ (c : Bool) (n1 : Nat), n1 ≤ 500 → goodB tos id flags part ttl proto opts.length = c → ACall Try.prog 94 [pktAV tos id flags part ttl proto f0 f1 f2 f3 t0 t1 t2 t3 opts body] [] 0 (.val (.bool c)) [] n1 → ∃ n1, n1 ≤ 500 ∧
      ACall Try.prog 94 [pktAV tos id flags part ttl proto f0 f1 f2 f3 t0 t1 t2 t3 opts body] [] 0 (.val (.bool (goodB tos id flags part ttl proto opts.length))) [] n1 := fun c n1 hn h ha => ⟨n1, hn, by rw [h]; exact ha⟩
  by_cases g0 : 0 ≤ tos ∧ tos ≤ 255
  case neg =>
    refine key false _ (by decide) (decide_eq_false (by unfold goodP; omega)) (outT_ok k69_ok (ip4Good_tos tos id flags part ttl proto f0 f1 f2 f3 t0 t1 t2 t3 opts body) ?_).1
    repeat' (first | exact allNil | refine allCons ?_ ?_)
    all_goals first | (with_reducible exact id) | (intros; with_reducible assumption) | (simp; omega)
  obtain ⟨g0, g0b⟩ := g0
  by_cases g1 : 0 ≤ id ∧ id ≤ 65535
  case neg =>
    refine key false _ (by decide) (decide_eq_false (by unfold goodP; omega)) (outT_ok k69_ok (ip4Good_id tos id flags part ttl proto f0 f1 f2 f3 t0 t1 t2 t3 opts body) ?_).1
    repeat' (first | exact allNil | refine allCons ?_ ?_)
    all_goals first | (with_reducible exact id) | (intros; with_reducible assumption) | (simp; omega)
  obtain ⟨g1, g1b⟩ := g1
  by_cases g2 : 0 ≤ flags ∧ flags ≤ 7
  case neg =>
    refine key false _ (by decide) (decide_eq_false (by unfold goodP; omega)) (outT_ok k69_ok (ip4Good_flags tos id flags part ttl proto f0 f1 f2 f3 t0 t1 t2 t3 opts body) ?_).1
    repeat' (first | exact allNil | refine allCons ?_ ?_)
    all_goals first | (with_reducible exact id) | (intros; with_reducible assumption) | (simp; omega)
  obtain ⟨g2, g2b⟩ := g2
  by_cases g3 : 0 ≤ part ∧ part ≤ 8191
  case neg =>
    refine key false _ (by decide) (decide_eq_false (by unfold goodP; omega)) (outT_ok k69_ok (ip4Good_part tos id flags part ttl proto f0 f1 f2 f3 t0 t1 t2 t3 opts body) ?_).1
    repeat' (first | exact allNil | refine allCons ?_ ?_)
    all_goals first | (with_reducible exact id) | (intros; with_reducible assumption) | (simp; omega)
  obtain ⟨g3, g3b⟩ := g3
  by_cases g4 : 0 ≤ ttl ∧ ttl ≤ 255
  case neg =>
    refine key false _ (by decide) (decide_eq_false (by unfold goodP; omega)) (outT_ok k69_ok (ip4Good_ttl tos id flags part ttl proto f0 f1 f2 f3 t0 t1 t2 t3 opts body) ?_).1
    repeat' (first | exact allNil | refine allCons ?_ ?_)
    all_goals first | (with_reducible exact id) | (intros; with_reducible assumption) | (simp; omega)
  obtain ⟨g4, g4b⟩ := g4
  by_cases g5 : 0 ≤ proto ∧ proto ≤ 255
  case neg =>
    refine key false _ (by decide) (decide_eq_false (by unfold goodP; omega)) (outT_ok k69_ok (ip4Good_proto tos id flags part ttl proto f0 f1 f2 f3 t0 t1 t2 t3 opts body) ?_).1
    repeat' (first | exact allNil | refine allCons ?_ ?_)
    all_goals first | (with_reducible exact id) | (intros; with_reducible assumption) | (simp; omega)
  obtain ⟨g5, g5b⟩ := g5
  by_cases g6 : 40 < opts.length
  · refine key false _ (by decide) (decide_eq_false (by unfold goodP; omega)) (outT_ok k69_ok (ip4Good_opts tos id flags part ttl proto f0 f1 f2 f3 t0 t1 t2 t3 opts body) ?_).1
    repeat' (first | exact allNil | refine allCons ?_ ?_)
    all_goals first | (with_reducible exact id) | (intros; with_reducible assumption) | (simp; omega)
  have hm : Int.tmod (opts.length : Int) 4 = (opts.length : Int) % 4 := Int.tmod_eq_emod_of_nonneg (by omega)
  by_cases g7 : opts.length % 4 = 0
  case neg =>
    refine key false _ (by decide) (decide_eq_false (by unfold goodP; omega)) ((outT_ok k69_ok (ip4Good_opts4 tos id flags part ttl proto f0 f1 f2 f3 t0 t1 t2 t3 opts body) ?_).1.to ?_)
    · repeat' (first | exact allNil | refine allCons ?_ ?_)
      all_goals first | (with_reducible exact id) | (intros; with_reducible assumption) | (simp; omega)
    · rw [hm]; simp; omega
  refine key true _ (by decide) (decide_eq_true (by unfold goodP; omega)) ((outT_ok k69_ok (ip4Good_ok tos id flags part ttl proto f0 f1 f2 f3 t0 t1 t2 t3 opts body) ?_).1.to ?_)
  · repeat' (first | exact allNil | refine allCons ?_ ?_)
    all_goals first | (with_reducible exact id) | (intros; with_reducible assumption) | (simp; omega)
  · rw [hm]; simp; omega

theorem good_at (tos id flags part ttl proto f0 f1 f2 f3 t0 t1 t2 t3 : Int) (opts body : List UInt8) (L : List (Nat × AObj)) (nx : Nat) :
    ACall Try.prog 94 [pktAV tos id flags part ttl proto f0 f1 f2 f3 t0 t1 t2 t3 opts body] L nx (.val (.bool (goodB tos id flags part ttl proto opts.length))) L (nx + 500) := by
  obtain ⟨n1, hn, h⟩ := good_c tos id flags part ttl proto f0 f1 f2 f3 t0 t1 t2 t3 opts body
  have := ACall.used (ids := []) (K := L) (nx := nx) (h : ACall Try.prog _ _ _ ([] : List Nat).length _ _ n1) (by simp) (by simp) (by simp) (fun m x hm => by simp [hp] at hm)
  refine ACall.up (n1 := nx + (n1 - 0)) ?_ (by omega)
  have hf : L.filter (fun _ => true) = L := List.filter_eq_self.2 fun _ _ => rfl
  simpa [renL, AV.ren, renH, pktAV, hf] using this

def kGood : Inl := fun g xs L nx =>
  if g = 94 then
    match xs with
    | [.agg [.val (.int .i64 tos), .val (.int .i64 id), .val (.int .i64 flags), .val (.int .i64 part), .val (.int .i64 ttl), .val (.int .i64 proto), .val (.int .u8 f0), .val (.int .u8 f1), .val (.int .u8 f2), .val (.int .u8 f3), .val (.int .u8 t0), .val (.int .u8 t1), .val (.int .u8 t2), .val (.int .u8 t3), .bytes opts, .bytes _]] =>
      some (.val (.bool (goodB tos id flags part ttl proto opts.length)), L, nx + 500, [])
    | _ => none
  else none

theorem kGood_ok : InlOk Try.prog kGood := by
  intro g xs L nx v L' nx' q h hq
  unfold kGood at h
  split at h
  · rename_i hg
    subst hg
    split at h
    · rename_i tos id flags part ttl proto f0 f1 f2 f3 t0 t1 t2 t3 opts body
      simp only [Option.some.injEq, Prod.mk.injEq] at h
      obtain ⟨rfl, rfl, rfl, rfl⟩ := h
      exact ⟨good_at tos id flags part ttl proto f0 f1 f2 f3 t0 t1 t2 t3 opts body L nx, by omega⟩
    · cases h
  · cases h

/-- what is known of packets -/
def k6g : Inl := orInl kGood k6
theorem k6g_ok : InlOk Try.prog k6g := orInl_ok kGood_ok k6_ok
end Go.Proofs.Ytoekncmggjhmjaa

/- Reckoned on each of its ways. (Printed by wip/tools/gen.py from wip/sym/XSSz.lean for the seat of chapters 6 to 9.) -/
namespace Go.Proofs.Ytoekncmggjhmjaa
open Go.RowKit

set_option maxRecDepth 100000 in
theorem sizes_short (ys : List UInt8) (n : Nat) (t : Nat) (x : Bool) (z : Bool) : outT k6 [(92, { br := [(7, true)] })] Try.prog 92 [AV.sl (0 : Nat) (0 : Nat) n none] [(0, { t := t, sz := (1 : Nat), exact := x, fz := z, body := Body.bytes ys })] 1 =
   some (AV.tup [AV.val (Value.int IntKind.i64 (0 : Int)), AV.val (Value.int IntKind.i64 (0 : Int)), AV.val (Value.int IntKind.i64 (3 : Int))], [(0, { t := t, sz := (1 : Nat), exact := x, fz := z, body := Body.bytes ys })], 10,
   [decide ((↑n : Int) < (20 : Int)) = true]) := by kernel_rfl

set_option maxRecDepth 100000 in
theorem sizes_form (ys : List UInt8) (n : Nat) (t : Nat) (x : Bool) (z : Bool) : outT k6 [(92, { op := [(3, 2, .get), (4, 2, .get), (4, 7, .get), (5, 2, .get), (5, 8, .mrg)], br := [(7, false), (24, true)], sp := [(5, 6), (5, 7)], ob := [(3, 1), (3, 2), (4, 1), (4, 2), (4, 6), (4, 7), (5, 1), (5, 2)] })] Try.prog 92 [AV.sl (0 : Nat) (0 : Nat) n none] [(0, { t := t, sz := (1 : Nat), exact := x, fz := z, body := Body.bytes ys })] 1 =
   some (AV.tup [AV.val (Value.int IntKind.i64 (0 : Int)), AV.val (Value.int IntKind.i64 (0 : Int)), AV.val (Value.int IntKind.i64 (4 : Int))], [(0, { t := t, sz := (1 : Nat), exact := x, fz := z, body := Body.bytes ys })], 38,
   [decide ((↑n : Int) < (20 : Int)) = false,
   (0 : Int) ≤ (0 : Int) ∧ (0 : Int) < (↑n : Int),
   (0 : Nat) < List.length ys,
   (0 : Int) ≤ (2 : Int) ∧ (2 : Int) < (↑n : Int),
   (2 : Nat) < List.length ys,
   (0 : Int) ≤ (3 : Int) ∧ (3 : Int) < (↑n : Int),
   (3 : Nat) < List.length ys,
   (0 : Int) ≤ (0 : Int) ∧ (0 : Int) < (↑n : Int),
   (0 : Nat) < List.length ys,
   (!Int.fdiv (↑(UInt8.toNat (List.getD ys (0 : Nat) (0 : UInt8))) : Int) (16 : Int) != (4 : Int)) = true → (!Int.fdiv (↑(UInt8.toNat (List.getD ys (0 : Nat) (0 : UInt8))) : Int) (16 : Int) != (4 : Int)) = true,
   (Int.fdiv (↑(UInt8.toNat (List.getD ys (0 : Nat) (0 : UInt8))) : Int) (16 : Int) != (4 : Int)) = false → (!Int.fdiv (↑(UInt8.toNat (List.getD ys (0 : Nat) (0 : UInt8))) : Int) (16 : Int) != (4 : Int)) = true,
   (bif Int.fdiv (↑(UInt8.toNat (List.getD ys (0 : Nat) (0 : UInt8))) : Int) (16 : Int) != (4 : Int) then true else decide (IntKind.wrap IntKind.i64 (IntKind.wrap IntKind.i64 (bits BinOp.and IntKind.u8 (↑(UInt8.toNat (List.getD ys (0 : Nat) (0 : UInt8))) : Int) (15 : Int)) * (4 : Int)) < (20 : Int))) = true]) := by kernel_rfl

set_option maxRecDepth 100000 in
theorem sizes_long (ys : List UInt8) (n : Nat) (t : Nat) (x : Bool) (z : Bool) : outT k6 [(92, { op := [(3, 2, .get), (4, 2, .get), (4, 7, .get), (5, 2, .get), (5, 8, .mrg)], br := [(7, false), (24, false), (34, true)], sp := [(5, 6), (5, 7)], ob := [(3, 1), (3, 2), (4, 1), (4, 2), (4, 6), (4, 7), (5, 1), (5, 2)] })] Try.prog 92 [AV.sl (0 : Nat) (0 : Nat) n none] [(0, { t := t, sz := (1 : Nat), exact := x, fz := z, body := Body.bytes ys })] 1 =
   some (AV.tup [AV.val (Value.int IntKind.i64 (0 : Int)), AV.val (Value.int IntKind.i64 (0 : Int)), AV.val (Value.int IntKind.i64 (3 : Int))], [(0, { t := t, sz := (1 : Nat), exact := x, fz := z, body := Body.bytes ys })], 43,
   [decide ((↑n : Int) < (20 : Int)) = false,
   (0 : Int) ≤ (0 : Int) ∧ (0 : Int) < (↑n : Int),
   (0 : Nat) < List.length ys,
   (0 : Int) ≤ (2 : Int) ∧ (2 : Int) < (↑n : Int),
   (2 : Nat) < List.length ys,
   (0 : Int) ≤ (3 : Int) ∧ (3 : Int) < (↑n : Int),
   (3 : Nat) < List.length ys,
   (0 : Int) ≤ (0 : Int) ∧ (0 : Int) < (↑n : Int),
   (0 : Nat) < List.length ys,
   (!Int.fdiv (↑(UInt8.toNat (List.getD ys (0 : Nat) (0 : UInt8))) : Int) (16 : Int) != (4 : Int)) = true → (!Int.fdiv (↑(UInt8.toNat (List.getD ys (0 : Nat) (0 : UInt8))) : Int) (16 : Int) != (4 : Int)) = true,
   (Int.fdiv (↑(UInt8.toNat (List.getD ys (0 : Nat) (0 : UInt8))) : Int) (16 : Int) != (4 : Int)) = false → (!Int.fdiv (↑(UInt8.toNat (List.getD ys (0 : Nat) (0 : UInt8))) : Int) (16 : Int) != (4 : Int)) = true,
   (bif Int.fdiv (↑(UInt8.toNat (List.getD ys (0 : Nat) (0 : UInt8))) : Int) (16 : Int) != (4 : Int) then true else decide (IntKind.wrap IntKind.i64 (IntKind.wrap IntKind.i64 (bits BinOp.and IntKind.u8 (↑(UInt8.toNat (List.getD ys (0 : Nat) (0 : UInt8))) : Int) (15 : Int)) * (4 : Int)) < (20 : Int))) = false,
   decide (IntKind.wrap IntKind.i64 (IntKind.wrap IntKind.i64 (bits BinOp.and IntKind.u8 (↑(UInt8.toNat (List.getD ys (0 : Nat) (0 : UInt8))) : Int) (15 : Int)) * (4 : Int)) > (↑n : Int)) = true]) := by kernel_rfl

set_option maxRecDepth 100000 in
theorem sizes_sum (ys : List UInt8) (n : Nat) (t : Nat) (x : Bool) (z : Bool) : outT k6 [(92, { op := [(3, 2, .get), (4, 2, .get), (4, 7, .get), (5, 2, .get), (5, 8, .mrg)], br := [(7, false), (24, false), (34, false), (39, true)], sp := [(5, 6), (5, 7)], ob := [(3, 1), (3, 2), (4, 1), (4, 2), (4, 6), (4, 7), (5, 1), (5, 2), (9, 2), (9, 3)] })] Try.prog 92 [AV.sl (0 : Nat) (0 : Nat) n none] [(0, { t := t, sz := (1 : Nat), exact := x, fz := z, body := Body.bytes ys })] 1 =
   some (AV.tup [AV.val (Value.int IntKind.i64 (0 : Int)), AV.val (Value.int IntKind.i64 (0 : Int)), AV.val (Value.int IntKind.i64 (5 : Int))], [(0, { t := t, sz := (1 : Nat), exact := x, fz := z, body := Body.bytes ys })], 49,
   [decide ((↑n : Int) < (20 : Int)) = false,
   (0 : Int) ≤ (0 : Int) ∧ (0 : Int) < (↑n : Int),
   (0 : Nat) < List.length ys,
   (0 : Int) ≤ (2 : Int) ∧ (2 : Int) < (↑n : Int),
   (2 : Nat) < List.length ys,
   (0 : Int) ≤ (3 : Int) ∧ (3 : Int) < (↑n : Int),
   (3 : Nat) < List.length ys,
   (0 : Int) ≤ (0 : Int) ∧ (0 : Int) < (↑n : Int),
   (0 : Nat) < List.length ys,
   (!Int.fdiv (↑(UInt8.toNat (List.getD ys (0 : Nat) (0 : UInt8))) : Int) (16 : Int) != (4 : Int)) = true → (!Int.fdiv (↑(UInt8.toNat (List.getD ys (0 : Nat) (0 : UInt8))) : Int) (16 : Int) != (4 : Int)) = true,
   (Int.fdiv (↑(UInt8.toNat (List.getD ys (0 : Nat) (0 : UInt8))) : Int) (16 : Int) != (4 : Int)) = false → (!Int.fdiv (↑(UInt8.toNat (List.getD ys (0 : Nat) (0 : UInt8))) : Int) (16 : Int) != (4 : Int)) = true,
   (bif Int.fdiv (↑(UInt8.toNat (List.getD ys (0 : Nat) (0 : UInt8))) : Int) (16 : Int) != (4 : Int) then true else decide (IntKind.wrap IntKind.i64 (IntKind.wrap IntKind.i64 (bits BinOp.and IntKind.u8 (↑(UInt8.toNat (List.getD ys (0 : Nat) (0 : UInt8))) : Int) (15 : Int)) * (4 : Int)) < (20 : Int))) = false,
   decide (IntKind.wrap IntKind.i64 (IntKind.wrap IntKind.i64 (bits BinOp.and IntKind.u8 (↑(UInt8.toNat (List.getD ys (0 : Nat) (0 : UInt8))) : Int) (15 : Int)) * (4 : Int)) > (↑n : Int)) = false,
   (0 : Int) ≤ (0 : Int),
   (0 : Int) ≤ IntKind.wrap IntKind.i64 (IntKind.wrap IntKind.i64 (bits BinOp.and IntKind.u8 (↑(UInt8.toNat (List.getD ys (0 : Nat) (0 : UInt8))) : Int) (15 : Int)) * (4 : Int)),
   (0 : Nat) ≤ Int.toNat (IntKind.wrap IntKind.i64 (IntKind.wrap IntKind.i64 (bits BinOp.and IntKind.u8 (↑(UInt8.toNat (List.getD ys (0 : Nat) (0 : UInt8))) : Int) (15 : Int)) * (4 : Int))) ∧ (0 : Nat) + Int.toNat (IntKind.wrap IntKind.i64 (IntKind.wrap IntKind.i64 (bits BinOp.and IntKind.u8 (↑(UInt8.toNat (List.getD ys (0 : Nat) (0 : UInt8))) : Int) (15 : Int)) * (4 : Int))) ≤ List.length ys,
   (0 : Nat) + Int.toNat (IntKind.wrap IntKind.i64 (IntKind.wrap IntKind.i64 (bits BinOp.and IntKind.u8 (↑(UInt8.toNat (List.getD ys (0 : Nat) (0 : UInt8))) : Int) (15 : Int)) * (4 : Int))) ≤ List.length ys,
   List.length (List.take (Int.toNat (IntKind.wrap IntKind.i64 (IntKind.wrap IntKind.i64 (bits BinOp.and IntKind.u8 (↑(UInt8.toNat (List.getD ys (0 : Nat) (0 : UInt8))) : Int) (15 : Int)) * (4 : Int)))) ys) ≤ (100000000 : Nat),
   (!ofL (List.take (Int.toNat (IntKind.wrap IntKind.i64 (IntKind.wrap IntKind.i64 (bits BinOp.and IntKind.u8 (↑(UInt8.toNat (List.getD ys (0 : Nat) (0 : UInt8))) : Int) (15 : Int)) * (4 : Int)))) ys) == (0 : Nat)) = true]) := by kernel_rfl

set_option maxRecDepth 100000 in
theorem sizes_form2 (ys : List UInt8) (n : Nat) (t : Nat) (x : Bool) (z : Bool) : outT k6 [(92, { op := [(3, 2, .get), (4, 2, .get), (4, 7, .get), (5, 2, .get), (5, 8, .mrg)], br := [(7, false), (24, false), (34, false), (39, false), (45, true)], sp := [(5, 6), (5, 7)], ob := [(3, 1), (3, 2), (4, 1), (4, 2), (4, 6), (4, 7), (5, 1), (5, 2), (9, 2), (9, 3)] })] Try.prog 92 [AV.sl (0 : Nat) (0 : Nat) n none] [(0, { t := t, sz := (1 : Nat), exact := x, fz := z, body := Body.bytes ys })] 1 =
   some (AV.tup [AV.val (Value.int IntKind.i64 (0 : Int)), AV.val (Value.int IntKind.i64 (0 : Int)), AV.val (Value.int IntKind.i64 (4 : Int))], [(0, { t := t, sz := (1 : Nat), exact := x, fz := z, body := Body.bytes ys })], 53,
   [decide ((↑n : Int) < (20 : Int)) = false,
   (0 : Int) ≤ (0 : Int) ∧ (0 : Int) < (↑n : Int),
   (0 : Nat) < List.length ys,
   (0 : Int) ≤ (2 : Int) ∧ (2 : Int) < (↑n : Int),
   (2 : Nat) < List.length ys,
   (0 : Int) ≤ (3 : Int) ∧ (3 : Int) < (↑n : Int),
   (3 : Nat) < List.length ys,
   (0 : Int) ≤ (0 : Int) ∧ (0 : Int) < (↑n : Int),
   (0 : Nat) < List.length ys,
   (!Int.fdiv (↑(UInt8.toNat (List.getD ys (0 : Nat) (0 : UInt8))) : Int) (16 : Int) != (4 : Int)) = true → (!Int.fdiv (↑(UInt8.toNat (List.getD ys (0 : Nat) (0 : UInt8))) : Int) (16 : Int) != (4 : Int)) = true,
   (Int.fdiv (↑(UInt8.toNat (List.getD ys (0 : Nat) (0 : UInt8))) : Int) (16 : Int) != (4 : Int)) = false → (!Int.fdiv (↑(UInt8.toNat (List.getD ys (0 : Nat) (0 : UInt8))) : Int) (16 : Int) != (4 : Int)) = true,
   (bif Int.fdiv (↑(UInt8.toNat (List.getD ys (0 : Nat) (0 : UInt8))) : Int) (16 : Int) != (4 : Int) then true else decide (IntKind.wrap IntKind.i64 (IntKind.wrap IntKind.i64 (bits BinOp.and IntKind.u8 (↑(UInt8.toNat (List.getD ys (0 : Nat) (0 : UInt8))) : Int) (15 : Int)) * (4 : Int)) < (20 : Int))) = false,
   decide (IntKind.wrap IntKind.i64 (IntKind.wrap IntKind.i64 (bits BinOp.and IntKind.u8 (↑(UInt8.toNat (List.getD ys (0 : Nat) (0 : UInt8))) : Int) (15 : Int)) * (4 : Int)) > (↑n : Int)) = false,
   (0 : Int) ≤ (0 : Int),
   (0 : Int) ≤ IntKind.wrap IntKind.i64 (IntKind.wrap IntKind.i64 (bits BinOp.and IntKind.u8 (↑(UInt8.toNat (List.getD ys (0 : Nat) (0 : UInt8))) : Int) (15 : Int)) * (4 : Int)),
   (0 : Nat) ≤ Int.toNat (IntKind.wrap IntKind.i64 (IntKind.wrap IntKind.i64 (bits BinOp.and IntKind.u8 (↑(UInt8.toNat (List.getD ys (0 : Nat) (0 : UInt8))) : Int) (15 : Int)) * (4 : Int))) ∧ (0 : Nat) + Int.toNat (IntKind.wrap IntKind.i64 (IntKind.wrap IntKind.i64 (bits BinOp.and IntKind.u8 (↑(UInt8.toNat (List.getD ys (0 : Nat) (0 : UInt8))) : Int) (15 : Int)) * (4 : Int))) ≤ List.length ys,
   (0 : Nat) + Int.toNat (IntKind.wrap IntKind.i64 (IntKind.wrap IntKind.i64 (bits BinOp.and IntKind.u8 (↑(UInt8.toNat (List.getD ys (0 : Nat) (0 : UInt8))) : Int) (15 : Int)) * (4 : Int))) ≤ List.length ys,
   List.length (List.take (Int.toNat (IntKind.wrap IntKind.i64 (IntKind.wrap IntKind.i64 (bits BinOp.and IntKind.u8 (↑(UInt8.toNat (List.getD ys (0 : Nat) (0 : UInt8))) : Int) (15 : Int)) * (4 : Int)))) ys) ≤ (100000000 : Nat),
   (!ofL (List.take (Int.toNat (IntKind.wrap IntKind.i64 (IntKind.wrap IntKind.i64 (bits BinOp.and IntKind.u8 (↑(UInt8.toNat (List.getD ys (0 : Nat) (0 : UInt8))) : Int) (15 : Int)) * (4 : Int)))) ys) == (0 : Nat)) = false,
   decide (bits BinOp.or IntKind.i64 (IntKind.wrap IntKind.i64 (IntKind.wrap IntKind.i64 (↑(UInt8.toNat (List.getD ys (2 : Nat) (0 : UInt8))) : Int) * (256 : Int))) (IntKind.wrap IntKind.i64 (↑(UInt8.toNat (List.getD ys (3 : Nat) (0 : UInt8))) : Int)) < IntKind.wrap IntKind.i64 (IntKind.wrap IntKind.i64 (bits BinOp.and IntKind.u8 (↑(UInt8.toNat (List.getD ys (0 : Nat) (0 : UInt8))) : Int) (15 : Int)) * (4 : Int))) = true]) := by kernel_rfl

set_option maxRecDepth 100000 in
theorem sizes_long2 (ys : List UInt8) (n : Nat) (t : Nat) (x : Bool) (z : Bool) : outT k6 [(92, { op := [(3, 2, .get), (4, 2, .get), (4, 7, .get), (5, 2, .get), (5, 8, .mrg)], br := [(7, false), (24, false), (34, false), (39, false), (45, false), (49, true)], sp := [(5, 6), (5, 7)], ob := [(3, 1), (3, 2), (4, 1), (4, 2), (4, 6), (4, 7), (5, 1), (5, 2), (9, 2), (9, 3)] })] Try.prog 92 [AV.sl (0 : Nat) (0 : Nat) n none] [(0, { t := t, sz := (1 : Nat), exact := x, fz := z, body := Body.bytes ys })] 1 =
   some (AV.tup [AV.val (Value.int IntKind.i64 (0 : Int)), AV.val (Value.int IntKind.i64 (0 : Int)), AV.val (Value.int IntKind.i64 (3 : Int))], [(0, { t := t, sz := (1 : Nat), exact := x, fz := z, body := Body.bytes ys })], 58,
   [decide ((↑n : Int) < (20 : Int)) = false,
   (0 : Int) ≤ (0 : Int) ∧ (0 : Int) < (↑n : Int),
   (0 : Nat) < List.length ys,
   (0 : Int) ≤ (2 : Int) ∧ (2 : Int) < (↑n : Int),
   (2 : Nat) < List.length ys,
   (0 : Int) ≤ (3 : Int) ∧ (3 : Int) < (↑n : Int),
   (3 : Nat) < List.length ys,
   (0 : Int) ≤ (0 : Int) ∧ (0 : Int) < (↑n : Int),
   (0 : Nat) < List.length ys,
   (!Int.fdiv (↑(UInt8.toNat (List.getD ys (0 : Nat) (0 : UInt8))) : Int) (16 : Int) != (4 : Int)) = true → (!Int.fdiv (↑(UInt8.toNat (List.getD ys (0 : Nat) (0 : UInt8))) : Int) (16 : Int) != (4 : Int)) = true,
   (Int.fdiv (↑(UInt8.toNat (List.getD ys (0 : Nat) (0 : UInt8))) : Int) (16 : Int) != (4 : Int)) = false → (!Int.fdiv (↑(UInt8.toNat (List.getD ys (0 : Nat) (0 : UInt8))) : Int) (16 : Int) != (4 : Int)) = true,
   (bif Int.fdiv (↑(UInt8.toNat (List.getD ys (0 : Nat) (0 : UInt8))) : Int) (16 : Int) != (4 : Int) then true else decide (IntKind.wrap IntKind.i64 (IntKind.wrap IntKind.i64 (bits BinOp.and IntKind.u8 (↑(UInt8.toNat (List.getD ys (0 : Nat) (0 : UInt8))) : Int) (15 : Int)) * (4 : Int)) < (20 : Int))) = false,
   decide (IntKind.wrap IntKind.i64 (IntKind.wrap IntKind.i64 (bits BinOp.and IntKind.u8 (↑(UInt8.toNat (List.getD ys (0 : Nat) (0 : UInt8))) : Int) (15 : Int)) * (4 : Int)) > (↑n : Int)) = false,
   (0 : Int) ≤ (0 : Int),
   (0 : Int) ≤ IntKind.wrap IntKind.i64 (IntKind.wrap IntKind.i64 (bits BinOp.and IntKind.u8 (↑(UInt8.toNat (List.getD ys (0 : Nat) (0 : UInt8))) : Int) (15 : Int)) * (4 : Int)),
   (0 : Nat) ≤ Int.toNat (IntKind.wrap IntKind.i64 (IntKind.wrap IntKind.i64 (bits BinOp.and IntKind.u8 (↑(UInt8.toNat (List.getD ys (0 : Nat) (0 : UInt8))) : Int) (15 : Int)) * (4 : Int))) ∧ (0 : Nat) + Int.toNat (IntKind.wrap IntKind.i64 (IntKind.wrap IntKind.i64 (bits BinOp.and IntKind.u8 (↑(UInt8.toNat (List.getD ys (0 : Nat) (0 : UInt8))) : Int) (15 : Int)) * (4 : Int))) ≤ List.length ys,
   (0 : Nat) + Int.toNat (IntKind.wrap IntKind.i64 (IntKind.wrap IntKind.i64 (bits BinOp.and IntKind.u8 (↑(UInt8.toNat (List.getD ys (0 : Nat) (0 : UInt8))) : Int) (15 : Int)) * (4 : Int))) ≤ List.length ys,
   List.length (List.take (Int.toNat (IntKind.wrap IntKind.i64 (IntKind.wrap IntKind.i64 (bits BinOp.and IntKind.u8 (↑(UInt8.toNat (List.getD ys (0 : Nat) (0 : UInt8))) : Int) (15 : Int)) * (4 : Int)))) ys) ≤ (100000000 : Nat),
   (!ofL (List.take (Int.toNat (IntKind.wrap IntKind.i64 (IntKind.wrap IntKind.i64 (bits BinOp.and IntKind.u8 (↑(UInt8.toNat (List.getD ys (0 : Nat) (0 : UInt8))) : Int) (15 : Int)) * (4 : Int)))) ys) == (0 : Nat)) = false,
   decide (bits BinOp.or IntKind.i64 (IntKind.wrap IntKind.i64 (IntKind.wrap IntKind.i64 (↑(UInt8.toNat (List.getD ys (2 : Nat) (0 : UInt8))) : Int) * (256 : Int))) (IntKind.wrap IntKind.i64 (↑(UInt8.toNat (List.getD ys (3 : Nat) (0 : UInt8))) : Int)) < IntKind.wrap IntKind.i64 (IntKind.wrap IntKind.i64 (bits BinOp.and IntKind.u8 (↑(UInt8.toNat (List.getD ys (0 : Nat) (0 : UInt8))) : Int) (15 : Int)) * (4 : Int))) = false,
   decide (bits BinOp.or IntKind.i64 (IntKind.wrap IntKind.i64 (IntKind.wrap IntKind.i64 (↑(UInt8.toNat (List.getD ys (2 : Nat) (0 : UInt8))) : Int) * (256 : Int))) (IntKind.wrap IntKind.i64 (↑(UInt8.toNat (List.getD ys (3 : Nat) (0 : UInt8))) : Int)) > (↑n : Int)) = true]) := by kernel_rfl

set_option maxRecDepth 100000 in
theorem sizes_ok (ys : List UInt8) (n : Nat) (t : Nat) (x : Bool) (z : Bool) : outT k6 [(92, { op := [(3, 2, .get), (4, 2, .get), (4, 7, .get), (5, 2, .get), (5, 8, .mrg)], br := [(7, false), (24, false), (34, false), (39, false), (45, false), (49, false)], sp := [(5, 6), (5, 7)], ob := [(3, 1), (3, 2), (4, 1), (4, 2), (4, 6), (4, 7), (5, 1), (5, 2), (9, 2), (9, 3)] })] Try.prog 92 [AV.sl (0 : Nat) (0 : Nat) n none] [(0, { t := t, sz := (1 : Nat), exact := x, fz := z, body := Body.bytes ys })] 1 =
   some (AV.tup [AV.val (Value.int IntKind.i64 (IntKind.wrap IntKind.i64 (IntKind.wrap IntKind.i64 (bits BinOp.and IntKind.u8 (↑(UInt8.toNat (List.getD ys (0 : Nat) (0 : UInt8))) : Int) (15 : Int)) * (4 : Int)))), AV.val (Value.int IntKind.i64 (bits BinOp.or IntKind.i64 (IntKind.wrap IntKind.i64 (IntKind.wrap IntKind.i64 (↑(UInt8.toNat (List.getD ys (2 : Nat) (0 : UInt8))) : Int) * (256 : Int))) (IntKind.wrap IntKind.i64 (↑(UInt8.toNat (List.getD ys (3 : Nat) (0 : UInt8))) : Int)))), AV.val (Value.int IntKind.i64 (0 : Int))], [(0, { t := t, sz := (1 : Nat), exact := x, fz := z, body := Body.bytes ys })], 60,
   [decide ((↑n : Int) < (20 : Int)) = false,
   (0 : Int) ≤ (0 : Int) ∧ (0 : Int) < (↑n : Int),
   (0 : Nat) < List.length ys,
   (0 : Int) ≤ (2 : Int) ∧ (2 : Int) < (↑n : Int),
   (2 : Nat) < List.length ys,
   (0 : Int) ≤ (3 : Int) ∧ (3 : Int) < (↑n : Int),
   (3 : Nat) < List.length ys,
   (0 : Int) ≤ (0 : Int) ∧ (0 : Int) < (↑n : Int),
   (0 : Nat) < List.length ys,
   (!Int.fdiv (↑(UInt8.toNat (List.getD ys (0 : Nat) (0 : UInt8))) : Int) (16 : Int) != (4 : Int)) = true → (!Int.fdiv (↑(UInt8.toNat (List.getD ys (0 : Nat) (0 : UInt8))) : Int) (16 : Int) != (4 : Int)) = true,
   (Int.fdiv (↑(UInt8.toNat (List.getD ys (0 : Nat) (0 : UInt8))) : Int) (16 : Int) != (4 : Int)) = false → (!Int.fdiv (↑(UInt8.toNat (List.getD ys (0 : Nat) (0 : UInt8))) : Int) (16 : Int) != (4 : Int)) = true,
   (bif Int.fdiv (↑(UInt8.toNat (List.getD ys (0 : Nat) (0 : UInt8))) : Int) (16 : Int) != (4 : Int) then true else decide (IntKind.wrap IntKind.i64 (IntKind.wrap IntKind.i64 (bits BinOp.and IntKind.u8 (↑(UInt8.toNat (List.getD ys (0 : Nat) (0 : UInt8))) : Int) (15 : Int)) * (4 : Int)) < (20 : Int))) = false,
   decide (IntKind.wrap IntKind.i64 (IntKind.wrap IntKind.i64 (bits BinOp.and IntKind.u8 (↑(UInt8.toNat (List.getD ys (0 : Nat) (0 : UInt8))) : Int) (15 : Int)) * (4 : Int)) > (↑n : Int)) = false,
   (0 : Int) ≤ (0 : Int),
   (0 : Int) ≤ IntKind.wrap IntKind.i64 (IntKind.wrap IntKind.i64 (bits BinOp.and IntKind.u8 (↑(UInt8.toNat (List.getD ys (0 : Nat) (0 : UInt8))) : Int) (15 : Int)) * (4 : Int)),
   (0 : Nat) ≤ Int.toNat (IntKind.wrap IntKind.i64 (IntKind.wrap IntKind.i64 (bits BinOp.and IntKind.u8 (↑(UInt8.toNat (List.getD ys (0 : Nat) (0 : UInt8))) : Int) (15 : Int)) * (4 : Int))) ∧ (0 : Nat) + Int.toNat (IntKind.wrap IntKind.i64 (IntKind.wrap IntKind.i64 (bits BinOp.and IntKind.u8 (↑(UInt8.toNat (List.getD ys (0 : Nat) (0 : UInt8))) : Int) (15 : Int)) * (4 : Int))) ≤ List.length ys,
   (0 : Nat) + Int.toNat (IntKind.wrap IntKind.i64 (IntKind.wrap IntKind.i64 (bits BinOp.and IntKind.u8 (↑(UInt8.toNat (List.getD ys (0 : Nat) (0 : UInt8))) : Int) (15 : Int)) * (4 : Int))) ≤ List.length ys,
   List.length (List.take (Int.toNat (IntKind.wrap IntKind.i64 (IntKind.wrap IntKind.i64 (bits BinOp.and IntKind.u8 (↑(UInt8.toNat (List.getD ys (0 : Nat) (0 : UInt8))) : Int) (15 : Int)) * (4 : Int)))) ys) ≤ (100000000 : Nat),
   (!ofL (List.take (Int.toNat (IntKind.wrap IntKind.i64 (IntKind.wrap IntKind.i64 (bits BinOp.and IntKind.u8 (↑(UInt8.toNat (List.getD ys (0 : Nat) (0 : UInt8))) : Int) (15 : Int)) * (4 : Int)))) ys) == (0 : Nat)) = false,
   decide (bits BinOp.or IntKind.i64 (IntKind.wrap IntKind.i64 (IntKind.wrap IntKind.i64 (↑(UInt8.toNat (List.getD ys (2 : Nat) (0 : UInt8))) : Int) * (256 : Int))) (IntKind.wrap IntKind.i64 (↑(UInt8.toNat (List.getD ys (3 : Nat) (0 : UInt8))) : Int)) < IntKind.wrap IntKind.i64 (IntKind.wrap IntKind.i64 (bits BinOp.and IntKind.u8 (↑(UInt8.toNat (List.getD ys (0 : Nat) (0 : UInt8))) : Int) (15 : Int)) * (4 : Int))) = false,
   decide (bits BinOp.or IntKind.i64 (IntKind.wrap IntKind.i64 (IntKind.wrap IntKind.i64 (↑(UInt8.toNat (List.getD ys (2 : Nat) (0 : UInt8))) : Int) * (256 : Int))) (IntKind.wrap IntKind.i64 (↑(UInt8.toNat (List.getD ys (3 : Nat) (0 : UInt8))) : Int)) > (↑n : Int)) = false]) := by kernel_rfl
end Go.Proofs.Ytoekncmggjhmjaa

/- How long a packet's header, and all of it, is: known to the engine. -/
namespace Go.Proofs.Ytoekncmggjhmjaa
open Go.RowKit

def hdr (ys : List UInt8) : Nat := (ys.getD 0 0).toNat % 16 * 4
def sizesE (ys : List UInt8) (n : Nat) : Nat :=
  bif Nat.blt n 20 then 3 else bif !(Nat.beq ((ys.getD 0 0).toNat / 16) 4) || Nat.blt (hdr ys) 20 then 4 else bif Nat.blt n (hdr ys) then 3 else bif !(Nat.beq (ofL (ys.take (hdr ys))) 0) then 5
  else bif Nat.blt (at16 ys 2) (hdr ys) then 4 else bif Nat.blt n (at16 ys 2) then 3 else 0
def sizesH (ys : List UInt8) (n : Nat) : Nat := bif Nat.beq (sizesE ys n) 0 then hdr ys else 0
def sizesA (ys : List UInt8) (n : Nat) : Nat := bif Nat.beq (sizesE ys n) 0 then at16 ys 2 else 0

theorem blt_iff (a b : Nat) : Nat.blt a b = decide (a < b) := by
  by_cases h : a < b
  · rw [decide_eq_true h]; exact Nat.ble_eq_true_of_le h
  · rw [decide_eq_false h]; cases hb : Nat.blt a b
    · rfl
    · exact absurd (Nat.le_of_ble_eq_true hb) h
theorem beq_iff (a b : Nat) : Nat.beq a b = decide (a = b) := by
  by_cases h : a = b
  · rw [decide_eq_true h, h]; exact Nat.beq_refl b
  · rw [decide_eq_false h]; cases hb : Nat.beq a b
    · rfl
    · exact absurd (Nat.eq_of_beq_eq_true hb) h

theorem ACall.tup3 {P : Program} {g : FuncId} {xs : List AV} {L L' : List (Nat × AObj)} {nx n1 n2 : Nat} {a b c a' b' c' : Int} (h : ACall P g xs L nx (.tup [.val (.int .i64 a), .val (.int .i64 b), .val (.int .i64 c)]) L' n1) (e1 : a = a') (e2 : b = b') (e3 : c = c') (hn : n1 ≤ n2) :
    ACall P g xs L nx (.tup [.val (.int .i64 a'), .val (.int .i64 b'), .val (.int .i64 c')]) L' n2 := by
  subst e1 e2 e3
  exact h.up hn

theorem hdr_le (ys : List UInt8) : hdr ys ≤ 60 := by unfold hdr; omega

set_option maxHeartbeats 4000000 in
theorem sizes_c (ys : List UInt8) (n t : Nat) (x z : Bool) (hn : n ≤ ys.length) (hb : n ≤ 100000000) :
    ACall Try.prog 92 [.sl 0 0 n none] [(0, ⟨t, 1, x, z, .bytes ys⟩)] 1 (.tup [.val (.int .i64 (sizesH ys n : Nat)), .val (.int .i64 (sizesA ys n : Nat)), .val (.int .i64 (sizesE ys n : Nat))]) [(0, ⟨t, 1, x, z, .bytes ys⟩)] 100 := by
  have z0 : ∀ k, sizesE ys n = k → k ≠ 0 → (0 : Int) = (sizesH ys n : Nat) ∧ (0 : Int) = (sizesA ys n : Nat) := by
    intro k hk h0
    unfold sizesH sizesA
    rw [hk, beq_iff, decide_eq_false h0]
    exact ⟨rfl, rfl⟩
  by_cases h1 : n < 20
  · have hk : sizesE ys n = 3 := by unfold sizesE; rw [blt_iff, decide_eq_true h1]; rfl
    obtain ⟨y1, y2⟩ := z0 3 hk (by decide)
    refine (outT_ok k6_ok (sizes_short ys n t x z) ?_).1.tup3 y1 y2 (by rw [hk]; rfl) (by decide)
    repeat' (first | exact allNil | refine allCons ?_ ?_)
    all_goals (simp; omega)
  have ph : IntKind.wrap IntKind.i64 (IntKind.wrap IntKind.i64 (bits BinOp.and IntKind.u8 (↑(UInt8.toNat (List.getD ys (0 : Nat) (0 : UInt8))) : Int) (15 : Int)) * (4 : Int)) = (hdr ys : Int) := head_raw _
  have pa : bits BinOp.or IntKind.i64 (IntKind.wrap IntKind.i64 (IntKind.wrap IntKind.i64 (↑(UInt8.toNat (List.getD ys (2 : Nat) (0 : UInt8))) : Int) * (256 : Int))) (IntKind.wrap IntKind.i64 (↑(UInt8.toNat (List.getD ys (3 : Nat) (0 : UInt8))) : Int)) = ((at16 ys 2 : Nat) : Int) := pair_raw_at ys 2 (by omega)
  obtain ⟨v, hv⟩ : ∃ v : Nat, v = (List.getD ys 0 0).toNat := ⟨_, rfl⟩
  have pv : Int.fdiv (↑(UInt8.toNat (List.getD ys (0 : Nat) (0 : UInt8))) : Int) (16 : Int) = ((v / 16 : Nat) : Int) := by rw [fd16, hv]; omega
  have hl := hdr_le ys
  obtain ⟨h, hh⟩ : ∃ h : Nat, h = hdr ys := ⟨_, rfl⟩
  obtain ⟨a, ha⟩ : ∃ a : Nat, a = at16 ys 2 := ⟨_, rfl⟩
  have al := at16_lt ys 2
  rw [← hh] at ph hl
  rw [← ha] at pa al
  have hE : sizesE ys n = bif decide (n < 20) then 3 else bif !decide (v / 16 = 4) || decide (h < 20) then 4 else bif decide (n < h) then 3 else bif !decide (ofL (ys.take h) = 0) then 5 else bif decide (a < h) then 4 else bif decide (n < a) then 3 else 0 := by
    unfold sizesE
    simp only [blt_iff, beq_iff, ← hh, ← ha, ← hv]
  have q1 : (decide (n < 20)) = false := decide_eq_false h1
  by_cases h2 : ¬ v / 16 = 4 ∨ h < 20
  · have hk : sizesE ys n = 4 := by
      rw [hE, q1]
      have : (!decide (v / 16 = 4) || decide (h < 20)) = true := by simpa using h2
      rw [this]; rfl
    obtain ⟨y1, y2⟩ := z0 4 hk (by decide)
    refine (outT_ok k6_ok (sizes_form ys n t x z) ?_).1.tup3 y1 y2 (by rw [hk]; rfl) (by decide)
    repeat' (first | exact allNil | refine allCons ?_ ?_)
    all_goals (try simp only [ph, pa, pv]) <;> first | omega | (intros; with_reducible assumption) | (simp; done) | (simp; omega)
  have q2 : (!decide (v / 16 = 4) || decide (h < 20)) = false := by simp at h2 ⊢; omega
  by_cases h3 : n < h
  · have hk : sizesE ys n = 3 := by rw [hE, q1, q2, decide_eq_true h3]; rfl
    obtain ⟨y1, y2⟩ := z0 3 hk (by decide)
    refine (outT_ok k6_ok (sizes_long ys n t x z) ?_).1.tup3 y1 y2 (by rw [hk]; rfl) (by decide)
    repeat' (first | exact allNil | refine allCons ?_ ?_)
    all_goals (try simp only [ph, pa, pv]) <;> first | omega | (intros; with_reducible assumption) | (simp; done) | (simp; omega)
  have q3 : (decide (n < h)) = false := decide_eq_false h3
  by_cases h4 : ofL (ys.take h) = 0
  case neg =>
    have hk : sizesE ys n = 5 := by rw [hE, q1, q2, q3, decide_eq_false h4]; rfl
    obtain ⟨y1, y2⟩ := z0 5 hk (by decide)
    refine (outT_ok k6_ok (sizes_sum ys n t x z) ?_).1.tup3 y1 y2 (by rw [hk]; rfl) (by decide)
    repeat' (first | exact allNil | refine allCons ?_ ?_)
    all_goals (try simp only [ph, pa, pv]) <;> first | omega | (intros; with_reducible assumption) | (simp [h4]; done) | (simp; omega)
  by_cases h5 : a < h
  · have hk : sizesE ys n = 4 := by rw [hE, q1, q2, q3, decide_eq_true h4, decide_eq_true h5]; rfl
    obtain ⟨y1, y2⟩ := z0 4 hk (by decide)
    refine (outT_ok k6_ok (sizes_form2 ys n t x z) ?_).1.tup3 y1 y2 (by rw [hk]; rfl) (by decide)
    repeat' (first | exact allNil | refine allCons ?_ ?_)
    all_goals (try simp only [ph, pa, pv]) <;> first | omega | (intros; with_reducible assumption) | (simp [h4]; done) | (simp; omega)
  by_cases h6 : n < a
  · have hk : sizesE ys n = 3 := by rw [hE, q1, q2, q3, decide_eq_true h4, decide_eq_false h5, decide_eq_true h6]; rfl
    obtain ⟨y1, y2⟩ := z0 3 hk (by decide)
    refine (outT_ok k6_ok (sizes_long2 ys n t x z) ?_).1.tup3 y1 y2 (by rw [hk]; rfl) (by decide)
    repeat' (first | exact allNil | refine allCons ?_ ?_)
    all_goals (try simp only [ph, pa, pv]) <;> first | omega | (intros; with_reducible assumption) | (simp [h4]; done) | (simp; omega)
  have hk : sizesE ys n = 0 := by rw [hE, q1, q2, q3, decide_eq_true h4, decide_eq_false h5, decide_eq_false h6]; rfl
  refine (outT_ok k6_ok (sizes_ok ys n t x z) ?_).1.tup3 ?_ ?_ (by rw [hk]; rfl) (by decide)
  · repeat' (first | exact allNil | refine allCons ?_ ?_)
    all_goals (try simp only [ph, pa, pv]) <;> first | omega | (intros; with_reducible assumption) | (simp [h4]; done) | (simp; omega)
  · rw [ph]; unfold sizesH; rw [hk]; simp [Nat.beq, hh]
  · rw [pa]; unfold sizesA; rw [hk]; simp [Nat.beq, ha]

def kSizes : Inl := fun g xs L nx =>
  if g = 92 then
    match xs with
    | [.sl id 0 n none] =>
      match hp L id with
      | some ⟨t, 1, x, z, .bytes ys⟩ =>
        if id < nx then
          some (.tup [.val (.int .i64 (sizesH ys n : Nat)), .val (.int .i64 (sizesA ys n : Nat)), .val (.int .i64 (sizesE ys n : Nat))], [(id, ⟨t, 1, x, z, .bytes ys⟩)] ++ L.filter fun p => ![id].contains p.1, nx + 99, [n ≤ ys.length, n ≤ 100000000])
        else none
      | _ => none
    | _ => none
  else none

theorem kSizes_ok : InlOk Try.prog kSizes := by
  intro g xs L nx v L' nx' q h hq
  unfold kSizes at h
  split at h
  · rename_i hg
    subst hg
    split at h
    · rename_i id n
      split at h
      · rename_i t x z ys h2
        split at h
        · rename_i h3
          simp only [Option.some.injEq, Prod.mk.injEq] at h
          obtain ⟨rfl, rfl, rfl, rfl⟩ := h
          refine ⟨?_, by omega⟩
          have q1 : n ≤ ys.length := hq _ List.mem_cons_self
          have q2 : n ≤ 100000000 := hq _ (List.mem_cons_of_mem _ List.mem_cons_self)
          have := ACall.used (ids := [id]) (K := L) (nx := nx) (sizes_c ys n t x z q1 q2 : ACall Try.prog _ _ _ [id].length _ _ 100)
            (by simp) (by simp [h3]) (by simp) (fun m x hm => ?_)
          · simpa [renL, AV.ren, renN, renH, AObj.ren] using this
          · simp only [hp] at hm
            by_cases e0 : m = 0
            · subst e0
              simp at hm
              subst hm
              exact ⟨by simp, by simpa [renN, AObj.ren] using h2⟩
            · rw [if_neg e0] at hm; cases hm
        · cases h
      · cases h
    · cases h
  · cases h

/-- what is known of packets, and how long they are -/
def k6s : Inl := orInl kSizes k6g
theorem k6s_ok : InlOk Try.prog k6s := orInl_ok kSizes_ok k6g_ok
end Go.Proofs.Ytoekncmggjhmjaa

/- A function that is called more than once may have other hints at each of its calls: the table is asked for the call's first free number first. -/
namespace Go.Proofs.Ytoekncmggjhmjaa
open Go.RowKit

def hlOf (tab : List (Nat × HL)) (g nx : Nat) : HL :=
  match find1 tab (g + 1000000 * (nx + 1)) with
  | some h => h
  | none => (find1 tab g).getD {}

/-- the functions that are called are reckoned too, so deep, each with its hints; those that 'known' knows are not -/
def inlS (known : Inl) (tab : List (Nat × HL)) (P : Program) : Nat → Inl
  | 0 => known
  | n + 1 => fun g xs L nx =>
    match known g xs L nx with
    | some r => some r
    | none =>
      match runFn ((hlOf tab g nx).hs (inlS known tab P n)) P g xs L nx with
      | some (v, s, q) => if nx ≤ s.nx then some (v, keepL v L (heapF s.hp), s.nx, q) else none
      | none => none

theorem inlS_ok {P : Program} {known : Inl} (hk : InlOk P known) (tab : List (Nat × HL)) : ∀ n, InlOk P (inlS known tab P n)
  | 0 => hk
  | n + 1 => fun g xs L nx v L' nx' q h hq => by
    simp only [inlS] at h
    split at h
    · rename_i r h0
      injection h with h
      subst h
      exact hk _ _ _ _ _ _ _ _ h0 hq
    · split at h
      · rename_i v1 s q1 h1
        split at h
        · rename_i hle
          simp only [Option.some.injEq, Prod.mk.injEq] at h
          obtain ⟨rfl, rfl, rfl, rfl⟩ := h
          exact ⟨runFn_ok (inlS_ok hk tab n) h1 hq (pickO_sub _), hle⟩
        · cases h
      · cases h

/-- one function, reckoned with hints by function: its value, its objects, what is left to show -/
def outS (known : Inl) (tab : List (Nat × HL)) (P : Program) (g : FuncId) (xs : List AV) (L : List (Nat × AObj)) (nx : Nat) : Option (AV × List (Nat × AObj) × Nat × List Prop) :=
  match runFn ((hlOf tab g nx).hs (inlS known tab P 40)) P g xs L nx with
  | some (v, s, q) => if nx ≤ s.nx then some (v, keepL v L (heapF s.hp), s.nx, q) else none
  | none => none

theorem outS_ok {P : Program} {known : Inl} (hk : InlOk P known) {tab : List (Nat × HL)} {g : FuncId} {xs : List AV} {L L' : List (Nat × AObj)} {nx nx' : Nat} {v : AV} {q : List Prop} (h : outS known tab P g xs L nx = some (v, L', nx', q)) (hq : ∀ p ∈ q, p) :
    ACall P g xs L nx v L' nx' ∧ nx ≤ nx' := by
  unfold outS at h
  split at h
  · rename_i v1 s q1 h1
    split at h
    · rename_i hle
      simp only [Option.some.injEq, Prod.mk.injEq] at h
      obtain ⟨rfl, rfl, rfl, rfl⟩ := h
      exact ⟨runFn_ok (inlS_ok hk tab 40) h1 hq (pickO_sub _), hle⟩
    · cases h
  · cases h

end Go.Proofs.Ytoekncmggjhmjaa

/- A packet's bytes, plainly. -/
namespace Go.Proofs.Ytoekncmggjhmjaa

/-- a packet's header, with two bytes where its sum stands; n: all its bytes -/
def ipH (tos id flags part ttl proto f0 f1 f2 f3 t0 t1 t2 t3 : Int) (opts : List UInt8) (n : Int) (s0 s1 : UInt8) : List UInt8 :=
  lo8 (64 + (20 + (opts.length : Int)) / 4) :: lo8 tos :: lo8 (n / 256) :: lo8 n :: lo8 (id / 256) :: lo8 id :: lo8 ((flags * 8192 + part) / 256) :: lo8 (flags * 8192 + part) :: lo8 ttl :: lo8 proto :: s0 :: s1 ::
  UInt8.ofNat (Int.toNat f0) :: UInt8.ofNat (Int.toNat f1) :: UInt8.ofNat (Int.toNat f2) :: UInt8.ofNat (Int.toNat f3) :: UInt8.ofNat (Int.toNat t0) :: UInt8.ofNat (Int.toNat t1) :: UInt8.ofNat (Int.toNat t2) :: UInt8.ofNat (Int.toNat t3) :: opts

theorem version_raw (opts : List UInt8) (h : opts.length ≤ 40) : bits BinOp.or IntKind.i64 (64 : Int) (IntKind.wrap IntKind.i64 (Int.tdiv (IntKind.wrap IntKind.i64 ((20 : Int) + (↑(List.length opts) : Int))) (4 : Int))) = 64 + (20 + (opts.length : Int)) / 4 := by
  rw [w64 (20 + (opts.length : Int)) (by omega), Int.tdiv_eq_ediv_of_nonneg (by omega), w64 ((20 + (opts.length : Int)) / 4) (by omega)]
  have := or_join 6 64 ((20 + opts.length) / 4) (by decide) (by omega) (by omega)
  rw [show (20 + (opts.length : Int)) / 4 = (((20 + opts.length) / 4 : Nat) : Int) from by omega]
  exact this

theorem part_raw (flags part : Int) (h1 : 0 ≤ flags ∧ flags ≤ 7) (h2 : 0 ≤ part ∧ part ≤ 8191) : bits BinOp.or IntKind.i64 (IntKind.wrap IntKind.i64 (flags * (8192 : Int))) part = flags * 8192 + part := by
  rw [w64 (flags * 8192) (by omega)]
  obtain ⟨a, rfl⟩ := Int.eq_ofNat_of_zero_le h1.1
  obtain ⟨b, rfl⟩ := Int.eq_ofNat_of_zero_le h2.1
  have := or_join 13 (a * 8192) b (by omega) (by omega) (by omega)
  rw [show ((a : Int) * 8192) = ((a * 8192 : Nat) : Int) from by omega]
  exact this

theorem u8_of (f : Int) (h : 0 ≤ f ∧ f < 256) : ((UInt8.ofNat (Int.toNat f)).toNat : Int) = f := by
  rw [UInt8.toNat_ofNat', Nat.mod_eq_of_lt (by omega)]; omega

theorem sizesE_zero (ys : List UInt8) (n : Nat) (h0 : 20 ≤ n) (h1 : (ys.getD 0 0).toNat / 16 = 4) (h2 : 20 ≤ hdr ys) (h3 : hdr ys ≤ n) (h4 : ofL (ys.take (hdr ys)) = 0) (h5 : hdr ys ≤ at16 ys 2) (h6 : at16 ys 2 ≤ n) : sizesE ys n = 0 := by
  unfold sizesE
  simp only [blt_iff, beq_iff, decide_eq_false (show ¬ n < 20 from by omega), decide_eq_true h1, decide_eq_false (show ¬ hdr ys < 20 from by omega), decide_eq_false (show ¬ n < hdr ys from by omega), decide_eq_true h4, decide_eq_false (show ¬ at16 ys 2 < hdr ys from by omega), decide_eq_false (show ¬ n < at16 ys 2 from by omega)]
  rfl
theorem sizesE_cut (ys : List UInt8) (n : Nat) (h1 : (ys.getD 0 0).toNat / 16 = 4) (h2 : 20 ≤ hdr ys) (h4 : ofL (ys.take (hdr ys)) = 0) (h5 : hdr ys ≤ at16 ys 2) (h6 : n < at16 ys 2) : sizesE ys n = 3 := by
  unfold sizesE
  by_cases a : n < 20
  · simp only [blt_iff, decide_eq_true a]; rfl
  by_cases b : n < hdr ys
  · simp only [blt_iff, beq_iff, decide_eq_false a, decide_eq_true h1, decide_eq_false (show ¬ hdr ys < 20 from by omega), decide_eq_true b]; rfl
  simp only [blt_iff, beq_iff, decide_eq_false a, decide_eq_true h1, decide_eq_false (show ¬ hdr ys < 20 from by omega), decide_eq_false b, decide_eq_true h4, decide_eq_false (show ¬ at16 ys 2 < hdr ys from by omega), decide_eq_true h6]
  rfl
theorem sizesE_sum (ys : List UInt8) (n : Nat) (h0 : 20 ≤ n) (h1 : (ys.getD 0 0).toNat / 16 = 4) (h2 : 20 ≤ hdr ys) (h3 : hdr ys ≤ n) (h4 : ¬ ofL (ys.take (hdr ys)) = 0) : sizesE ys n = 5 := by
  unfold sizesE
  simp only [blt_iff, beq_iff, decide_eq_false (show ¬ n < 20 from by omega), decide_eq_true h1, decide_eq_false (show ¬ hdr ys < 20 from by omega), decide_eq_false (show ¬ n < hdr ys from by omega), decide_eq_false h4]
  rfl
theorem sizesA_zero (ys : List UInt8) (n : Nat) (h : sizesE ys n = 0) : sizesA ys n = at16 ys 2 := by unfold sizesA; rw [h]; rfl
theorem sizesH_zero (ys : List UInt8) (n : Nat) (h : sizesE ys n = 0) : sizesH ys n = hdr ys := by unfold sizesH; rw [h]; rfl

section
variable (tos id flags part ttl proto f0 f1 f2 f3 t0 t1 t2 t3 : Int) (opts : List UInt8) (n : Int) (s0 s1 : UInt8)
/-- the header's own words, whatever stands behind it -/
theorem ipH_len : (ipH tos id flags part ttl proto f0 f1 f2 f3 t0 t1 t2 t3 opts n s0 s1).length = 20 + opts.length := by simp [ipH]; omega
theorem ipH_b0 (rest : List UInt8) (h : opts.length ≤ 40) : ((ipH tos id flags part ttl proto f0 f1 f2 f3 t0 t1 t2 t3 opts n s0 s1 ++ rest).getD 0 0).toNat = 64 + (20 + opts.length) / 4 := by
  show (lo8 (64 + (20 + (opts.length : Int)) / 4)).toNat = _
  have := lo8_toNat (64 + (20 + (opts.length : Int)) / 4)
  omega
theorem ipH_hdr (rest : List UInt8) (h : opts.length ≤ 40) (h4 : opts.length % 4 = 0) : hdr (ipH tos id flags part ttl proto f0 f1 f2 f3 t0 t1 t2 t3 opts n s0 s1 ++ rest) = 20 + opts.length := by
  unfold hdr
  rw [ipH_b0 _ _ _ _ _ _ _ _ _ _ _ _ _ _ _ _ _ _ _ h]
  omega
theorem ipH_take (rest : List UInt8) : List.take (20 + opts.length) (ipH tos id flags part ttl proto f0 f1 f2 f3 t0 t1 t2 t3 opts n s0 s1 ++ rest) = ipH tos id flags part ttl proto f0 f1 f2 f3 t0 t1 t2 t3 opts n s0 s1 := by
  rw [List.take_append_of_le_length (by rw [ipH_len]; omega), List.take_of_length_le (by rw [ipH_len]; omega)]
theorem ipH_n (rest : List UInt8) (h : 0 ≤ n ∧ n ≤ 65535) : ((at16 (ipH tos id flags part ttl proto f0 f1 f2 f3 t0 t1 t2 t3 opts n s0 s1 ++ rest) 2 : Nat) : Int) = n := at16_lo _ 2 n h rfl rfl
theorem ipH_id (rest : List UInt8) (h : 0 ≤ id ∧ id ≤ 65535) : ((at16 (ipH tos id flags part ttl proto f0 f1 f2 f3 t0 t1 t2 t3 opts n s0 s1 ++ rest) 4 : Nat) : Int) = id := at16_lo _ 4 id h rfl rfl
theorem ipH_x (rest : List UInt8) (h : 0 ≤ flags ∧ flags ≤ 7) (h2 : 0 ≤ part ∧ part ≤ 8191) : ((at16 (ipH tos id flags part ttl proto f0 f1 f2 f3 t0 t1 t2 t3 opts n s0 s1 ++ rest) 6 : Nat) : Int) = flags * 8192 + part := at16_lo _ 6 _ (by omega) rfl rfl
theorem ipH_tos (rest : List UInt8) (h : 0 ≤ tos ∧ tos ≤ 255) : (((ipH tos id flags part ttl proto f0 f1 f2 f3 t0 t1 t2 t3 opts n s0 s1 ++ rest).getD 1 0).toNat : Int) = tos := by
  show ((lo8 tos).toNat : Int) = tos
  rw [lo8_toNat]; omega
theorem ipH_ttl (rest : List UInt8) (h : 0 ≤ ttl ∧ ttl ≤ 255) : (((ipH tos id flags part ttl proto f0 f1 f2 f3 t0 t1 t2 t3 opts n s0 s1 ++ rest).getD 8 0).toNat : Int) = ttl := by
  show ((lo8 ttl).toNat : Int) = ttl
  rw [lo8_toNat]; omega
theorem ipH_proto (rest : List UInt8) (h : 0 ≤ proto ∧ proto ≤ 255) : (((ipH tos id flags part ttl proto f0 f1 f2 f3 t0 t1 t2 t3 opts n s0 s1 ++ rest).getD 9 0).toNat : Int) = proto := by
  show ((lo8 proto).toNat : Int) = proto
  rw [lo8_toNat]; omega
theorem ipH_drop (rest : List UInt8) : List.drop 20 (ipH tos id flags part ttl proto f0 f1 f2 f3 t0 t1 t2 t3 opts n s0 s1 ++ rest) = opts ++ rest := rfl
theorem ipH_from (rest : List UInt8) : at32 (ipH tos id flags part ttl proto f0 f1 f2 f3 t0 t1 t2 t3 opts n s0 s1 ++ rest) 12 = (((UInt8.ofNat (Int.toNat f0)).toNat * 256 + (UInt8.ofNat (Int.toNat f1)).toNat) * 256 + (UInt8.ofNat (Int.toNat f2)).toNat) * 256 + (UInt8.ofNat (Int.toNat f3)).toNat := by
  rw [at32_four _ 12 (by rw [List.length_append, ipH_len]; omega)]; rfl
theorem ipH_to (rest : List UInt8) : at32 (ipH tos id flags part ttl proto f0 f1 f2 f3 t0 t1 t2 t3 opts n s0 s1 ++ rest) 16 = (((UInt8.ofNat (Int.toNat t0)).toNat * 256 + (UInt8.ofNat (Int.toNat t1)).toNat) * 256 + (UInt8.ofNat (Int.toNat t2)).toNat) * 256 + (UInt8.ofNat (Int.toNat t3)).toNat := by
  rw [at32_four _ 16 (by rw [List.length_append, ipH_len]; omega)]; rfl
theorem ipH_sum (hs : s0.toNat * 256 + s1.toNat = ofL (ipH tos id flags part ttl proto f0 f1 f2 f3 t0 t1 t2 t3 opts n 0 0)) : ofL (ipH tos id flags part ttl proto f0 f1 f2 f3 t0 t1 t2 t3 opts n s0 s1) = 0 :=
  ofL_put (ipH tos id flags part ttl proto f0 f1 f2 f3 t0 t1 t2 t3 opts n 0 0) 10 s0 s1 (by decide) rfl rfl hs
end

theorem four_d (a b c d : Int) (ha : 0 ≤ a ∧ a < 256) (hb : 0 ≤ b ∧ b < 256) (hc : 0 ≤ c ∧ c < 256) (hd : 0 ≤ d ∧ d < 256) (m : Nat) (h : m = (((UInt8.ofNat (Int.toNat a)).toNat * 256 + (UInt8.ofNat (Int.toNat b)).toNat) * 256 + (UInt8.ofNat (Int.toNat c)).toNat) * 256 + (UInt8.ofNat (Int.toNat d)).toNat) :
    (m : Int) / 16777216 % 256 = a ∧ (m : Int) / 65536 % 256 = b ∧ (m : Int) / 256 % 256 = c ∧ (m : Int) % 256 = d := by
  have a1 := u8_of a ha
  have b1 := u8_of b hb
  have c1 := u8_of c hc
  have d1 := u8_of d hd
  omega
end Go.Proofs.Ytoekncmggjhmjaa
