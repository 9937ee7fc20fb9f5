/- Turn of a sum by two bytes: known to the engine. -/
import Derived.Test.YtoekncmggjhmjaaTnRun
import Derived.Test.YtoekncmggjhmjaaTcpB
namespace Go.Proofs.Ytoekncmggjhmjaa
open Go.RowKit

def turnN (s o n : Nat) : Nat := 65535 - add16 (add16 (65535 - s) (65535 - o)) n

theorem add16_bd (x y : Nat) (hx : x ≤ 65535) (hy : y ≤ 65535) : add16 x y ≤ 65535 := add16_le x y hx hy

theorem add_raw (a b : Int) (x y : Nat) (hx : x ≤ 65535) (hy : y ≤ 65535) (ha : a = (x : Int)) (hb : b = (y : Int)) :
    IntKind.wrap IntKind.i64 (bits BinOp.and IntKind.i64 (IntKind.wrap IntKind.i64 (bits BinOp.and IntKind.i64 a (65535 : Int) + bits BinOp.and IntKind.i64 b (65535 : Int))) (65535 : Int) + Int.fdiv (IntKind.wrap IntKind.i64 (bits BinOp.and IntKind.i64 a (65535 : Int) + bits BinOp.and IntKind.i64 b (65535 : Int))) (65536 : Int)) = ((add16 x y : Nat) : Int) := by
  rw [and_65535 a, and_65535 b, ha, hb, w64 ((x : Int) % 65536 + (y : Int) % 65536) (by omega), and_65535, fd65536, w64 _ (by omega)]
  unfold add16
  omega

theorem pair_raw (x y : UInt8) : bits BinOp.or IntKind.i64 (IntKind.wrap IntKind.i64 (IntKind.wrap IntKind.i64 (x.toNat : Int) * (256 : Int))) (IntKind.wrap IntKind.i64 (y.toNat : Int)) = ((x.toNat * 256 + y.toNat : Nat) : Int) := by
  have hx := x.toNat_lt
  have hy := y.toNat_lt
  rw [w64 (x.toNat : Int) (by omega), w64 (y.toNat : Int) (by omega), w64 ((x.toNat : Int) * 256) (by omega), or_byte]
  omega

theorem turn_raw (s a b : Int) (so o n : Nat) (h1 : so ≤ 65535) (h2 : o ≤ 65535) (h3 : n ≤ 65535) (e1 : s % 65536 = so) (e2 : a = (o : Int)) (e3 : b = (n : Int)) :
    ∀ r1 r2 : Int, r1 = IntKind.wrap IntKind.i64 (bits BinOp.and IntKind.i64 (IntKind.wrap IntKind.i64 (bits BinOp.and IntKind.i64 (IntKind.wrap IntKind.i64 ((65535 : Int) - bits BinOp.and IntKind.i64 s (65535 : Int))) (65535 : Int) + bits BinOp.and IntKind.i64 (IntKind.wrap IntKind.i64 ((65535 : Int) - a)) (65535 : Int))) (65535 : Int) + Int.fdiv (IntKind.wrap IntKind.i64 (bits BinOp.and IntKind.i64 (IntKind.wrap IntKind.i64 ((65535 : Int) - bits BinOp.and IntKind.i64 s (65535 : Int))) (65535 : Int) + bits BinOp.and IntKind.i64 (IntKind.wrap IntKind.i64 ((65535 : Int) - a)) (65535 : Int))) (65536 : Int)) →
      r2 = IntKind.wrap IntKind.i64 (bits BinOp.and IntKind.i64 (IntKind.wrap IntKind.i64 (bits BinOp.and IntKind.i64 r1 (65535 : Int) + bits BinOp.and IntKind.i64 b (65535 : Int))) (65535 : Int) + Int.fdiv (IntKind.wrap IntKind.i64 (bits BinOp.and IntKind.i64 r1 (65535 : Int) + bits BinOp.and IntKind.i64 b (65535 : Int))) (65536 : Int)) →
      IntKind.wrap IntKind.i64 ((65535 : Int) - r2) = ((turnN so o n : Nat) : Int) := by
  intro r1 r2 q1 q2
  have p1 := add_raw (IntKind.wrap IntKind.i64 ((65535 : Int) - bits BinOp.and IntKind.i64 s (65535 : Int))) (IntKind.wrap IntKind.i64 ((65535 : Int) - a)) (65535 - so) (65535 - o) (by omega) (by omega)
    (by rw [and_65535, e1, w64 _ (by omega)]; omega) (by rw [e2, w64 _ (by omega)]; omega)
  rw [p1] at q1
  have b1 := add16_bd (65535 - so) (65535 - o) (by omega) (by omega)
  have p2 := add_raw r1 b (add16 (65535 - so) (65535 - o)) n b1 h3 q1 e3
  rw [p2] at q2
  have b2 := add16_bd (add16 (65535 - so) (65535 - o)) n b1 h3
  rw [q2, w64 _ (by omega)]
  unfold turnN
  omega

def trL (t1 t2 : Nat) (x1 z1 x2 z2 : Bool) (xs ys : List UInt8) : List (Nat × AObj) := [(0, ⟨t1, 1, x1, z1, .bytes xs⟩), (1, ⟨t2, 1, x2, z2, .bytes ys⟩)]
def trL' (t1 t2 : Nat) (x1 z1 x2 z2 : Bool) (xs ys : List UInt8) : List (Nat × AObj) := [(1, ⟨t2, 1, x2, z2, .bytes ys⟩), (0, ⟨t1, 1, x1, z1, .bytes xs⟩)]

def pairN (xs : List UInt8) (o : Nat) : Nat := (xs.getD o 0).toNat * 256 + (xs.getD (o + 1) 0).toNat
theorem pairN_le (xs : List UInt8) (o : Nat) : pairN xs o ≤ 65535 := by
  have := (xs.getD o 0).toNat_lt
  have := (xs.getD (o + 1) 0).toNat_lt
  unfold pairN; omega
theorem s_mod (s : Int) : s % 65536 = ((Int.toNat (s % 65536) : Nat) : Int) := by omega
theorem s_le (s : Int) : Int.toNat (s % 65536) ≤ 65535 := by omega

theorem turn_c (s : Int) (xs ys : List UInt8) (o1 o2 t1 t2 : Nat) (x1 z1 x2 z2 : Bool) (h1 : o1 + 2 ≤ xs.length) (h2 : o2 + 2 ≤ ys.length) :
    ACall Try.prog 95 [.val (.int .i64 s), .sl 0 o1 2 none, .sl 1 o2 2 none] (trL t1 t2 x1 z1 x2 z2 xs ys) 2 (.val (.int .i64 (turnN (Int.toNat (s % 65536)) (pairN xs o1) (pairN ys o2) : Nat))) (trL' t1 t2 x1 z1 x2 z2 xs ys) 92 := by
  have h := (outT_ok k69_ok (turn_run s xs ys o1 o2 t1 t2 x1 z1 x2 z2) (by
    repeat' (first | exact allNil | refine allCons ?_ ?_)
    all_goals omega)).1
  rw [turn_raw s _ _ (Int.toNat (s % 65536)) (pairN xs o1) (pairN ys o2) (s_le s) (pairN_le _ _) (pairN_le _ _) (s_mod s) (pair_raw _ _) (pair_raw _ _) _ _ rfl rfl] at h
  exact h

theorem at16_take2 (ys : List UInt8) (o : Nat) (h : o + 2 ≤ ys.length) : at16 (List.take 2 (List.drop o ys)) 0 = pairN ys o := by
  have e0 : (List.take 2 (List.drop o ys))[0]? = some (ys.getD o 0) := by
    simp [List.getElem?_drop, List.getD_eq_getElem?_getD, List.getElem?_eq_getElem (show o < ys.length from by omega)]
  have e1 : (List.take 2 (List.drop o ys))[0 + 1]? = some (ys.getD (o + 1) 0) := by
    rw [List.getElem?_take, if_pos (by omega), List.getElem?_drop, List.getD_eq_getElem?_getD, List.getElem?_eq_getElem (by omega)]; simp
  rw [at16_two _ 0 _ _ e0 e1]; rfl

theorem refTurn_c (s : Int) (old ys : List UInt8) (o2 t2 : Nat) (x2 z2 : Bool) (h1 : old.length = 2) (h2 : o2 + 2 ≤ ys.length) :
    ACall Try.prog 97 [.val (.int .i64 s), .bytes old, .sl 0 o2 2 none] [(0, ⟨t2, 1, x2, z2, .bytes ys⟩)] 1 (.val (.int .i64 (turnN (Int.toNat (s % 65536)) (pairN old 0) (pairN ys o2) : Nat))) [(0, ⟨t2, 1, x2, z2, .bytes ys⟩)] 71 := by
  match old, h1 with
  | [a, b], _ =>
    have h := (outT_ok k69_ok (refTurn_run s a b ys o2 t2 x2 z2) (by
      repeat' (first | exact allNil | refine allCons ?_ ?_)
      all_goals first | exact True.intro | omega | (simp; omega))).1
    have e1 : at16 [a, b] 0 = pairN [a, b] 0 := at16_two [a, b] 0 a b rfl rfl
    have e2 := at16_take2 ys o2 h2
    rw [turn_raw s _ _ (Int.toNat (s % 65536)) (pairN [a, b] 0) (pairN ys o2) (s_le s) (pairN_le _ _) (pairN_le _ _) (s_mod s) (by rw [e1]) (by rw [e2]) _ _ rfl rfl] at h
    exact h

def kTurn : Inl := fun g xs L nx =>
  match xs with
  | [.val (.int .i64 s), x, .sl id o 2 none] =>
    match hp L id with
    | some ⟨t2, 1, x2, z2, .bytes ys⟩ =>
      if g = 95 then
        match x with
        | .sl id1 o1 2 none =>
          match hp L id1 with
          | some ⟨t1, 1, x1, z1, .bytes xs⟩ =>
            if id1 < nx ∧ id < nx ∧ id1 ≠ id then
              some (.val (.int .i64 (turnN (Int.toNat (s % 65536)) (pairN xs o1) (pairN ys o) : Nat)), [(id, ⟨t2, 1, x2, z2, .bytes ys⟩), (id1, ⟨t1, 1, x1, z1, .bytes xs⟩)] ++ L.filter fun p => ![id1, id].contains p.1, nx + 90, [o1 + 2 ≤ xs.length, o + 2 ≤ ys.length])
            else none
          | _ => none
        | _ => none
      else if g = 97 then
        match x with
        | .bytes old =>
          if id < nx then
            some (.val (.int .i64 (turnN (Int.toNat (s % 65536)) (pairN old 0) (pairN ys o) : Nat)), [(id, ⟨t2, 1, x2, z2, .bytes ys⟩)] ++ L.filter fun p => ![id].contains p.1, nx + 70, [old.length = 2, o + 2 ≤ ys.length])
          else none
        | _ => none
      else none
    | _ => none
  | _ => none

theorem kTurn_ok : InlOk Try.prog kTurn := by
  intro g xs L nx v L' nx' q h hq
  unfold kTurn at h
  split at h
  · rename_i s x id o
    split at h
    · rename_i t2 x2 z2 ys h2
      split at h
      · rename_i hg
        subst hg
        split at h
        · rename_i id1 o1
          split at h
          · rename_i t1 x1 z1 xs h1
            split at h
            · rename_i h3
              simp only [Option.some.injEq, Prod.mk.injEq] at h
              obtain ⟨rfl, rfl, rfl, rfl⟩ := h
              refine ⟨?_, by omega⟩
              have q1 : o1 + 2 ≤ xs.length := hq _ List.mem_cons_self
              have q2 : o + 2 ≤ ys.length := hq _ (List.mem_cons_of_mem _ List.mem_cons_self)
              have := ACall.used (ids := [id1, id]) (K := L) (nx := nx) (turn_c s xs ys o1 o t1 t2 x1 z1 x2 z2 q1 q2 : ACall Try.prog _ _ _ [id1, id].length _ _ 92)
                (by simp [h3.2.2]) (by simp [h3.1, h3.2.1]) (by simp) (fun m x hm => ?_)
              · simpa [renL, AV.ren, renN, trL, trL', renH, AObj.ren] using this
              · simp only [trL, hp] at hm
                by_cases e0 : m = 0
                · subst e0
                  simp at hm
                  subst hm
                  exact ⟨by simp, by simpa [renN, AObj.ren] using h1⟩
                · rw [if_neg e0] at hm
                  by_cases e1 : m = 1
                  · subst e1
                    simp at hm
                    subst hm
                    exact ⟨by simp, by simpa [renN, AObj.ren] using h2⟩
                  · rw [if_neg e1] at hm; cases hm
            · cases h
          · cases h
        · cases h
      · split at h
        · rename_i hg
          subst hg
          split at h
          · rename_i old
            split at h
            · rename_i h3
              simp only [Option.some.injEq, Prod.mk.injEq] at h
              obtain ⟨rfl, rfl, rfl, rfl⟩ := h
              refine ⟨?_, by omega⟩
              have q1 : old.length = 2 := hq _ List.mem_cons_self
              have q2 : o + 2 ≤ ys.length := hq _ (List.mem_cons_of_mem _ List.mem_cons_self)
              have := ACall.used (ids := [id]) (K := L) (nx := nx) (refTurn_c s old ys o t2 x2 z2 q1 q2 : ACall Try.prog _ _ _ [id].length _ _ 71)
                (by simp) (by simp [h3]) (by simp) (fun m x hm => ?_)
              · simpa [renL, AV.ren, renN, renH, AObj.ren] using this
              · simp only [hp] at hm
                by_cases e0 : m = 0
                · subst e0
                  simp at hm
                  subst hm
                  exact ⟨by simp, by simpa [renN, AObj.ren] using h2⟩
                · rw [if_neg e0] at hm; cases hm
            · cases h
          · cases h
        · cases h
    · cases h
  · cases h

theorem fd16 (z : Int) : Int.fdiv z 16 = z / 16 := Int.fdiv_eq_ediv_of_nonneg _ (by decide)
theorem fd8192 (z : Int) : Int.fdiv z 8192 = z / 8192 := Int.fdiv_eq_ediv_of_nonneg _ (by decide)
theorem at16_take (l : List UInt8) (n i : Nat) (h : i + 2 ≤ n) : at16 (List.take n l) i = at16 l i := by
  unfold at16
  rw [List.drop_take, List.take_take, Nat.min_eq_left (by omega)]
theorem at32_take (l : List UInt8) (n i : Nat) (h : i + 4 ≤ n) : at32 (List.take n l) i = at32 l i := by
  unfold at32
  rw [List.drop_take, List.take_take, Nat.min_eq_left (by omega)]
theorem at8_take (l : List UInt8) (n i : Nat) (h : i + 1 ≤ n) : at8 (List.take n l) i = (l.getD i 0).toNat := by
  rw [← at8_getD]
  unfold at8
  rw [List.drop_take, List.take_take, Nat.min_eq_left (by omega)]
theorem at32_four (l : List UInt8) (i : Nat) (h : i + 4 ≤ l.length) : at32 l i = (((l.getD i 0).toNat * 256 + (l.getD (i + 1) 0).toNat) * 256 + (l.getD (i + 2) 0).toNat) * 256 + (l.getD (i + 3) 0).toNat := by
  rw [← at32_len l i h]
  simp [List.getElem?_drop, List.getD_eq_getElem?_getD]
theorem at32_d0 (l : List UInt8) (i : Nat) (h : i + 4 ≤ l.length) : ((at32 l i : Nat) : Int) / 16777216 % 256 = ((l.getD i 0).toNat : Int) := by
  have a := (l.getD i 0).toNat_lt
  have b := (l.getD (i + 1) 0).toNat_lt
  have c := (l.getD (i + 2) 0).toNat_lt
  have d := (l.getD (i + 3) 0).toNat_lt
  rw [at32_four l i h]; omega
theorem at32_d1 (l : List UInt8) (i : Nat) (h : i + 4 ≤ l.length) : ((at32 l i : Nat) : Int) / 65536 % 256 = ((l.getD (i + 1) 0).toNat : Int) := by
  have a := (l.getD i 0).toNat_lt
  have b := (l.getD (i + 1) 0).toNat_lt
  have c := (l.getD (i + 2) 0).toNat_lt
  have d := (l.getD (i + 3) 0).toNat_lt
  rw [at32_four l i h]; omega
theorem at32_d2 (l : List UInt8) (i : Nat) (h : i + 4 ≤ l.length) : ((at32 l i : Nat) : Int) / 256 % 256 = ((l.getD (i + 2) 0).toNat : Int) := by
  have a := (l.getD i 0).toNat_lt
  have b := (l.getD (i + 1) 0).toNat_lt
  have c := (l.getD (i + 2) 0).toNat_lt
  have d := (l.getD (i + 3) 0).toNat_lt
  rw [at32_four l i h]; omega
theorem at32_d3 (l : List UInt8) (i : Nat) (h : i + 4 ≤ l.length) : ((at32 l i : Nat) : Int) % 256 = ((l.getD (i + 3) 0).toNat : Int) := by
  have a := (l.getD i 0).toNat_lt
  have b := (l.getD (i + 1) 0).toNat_lt
  have c := (l.getD (i + 2) 0).toNat_lt
  have d := (l.getD (i + 3) 0).toNat_lt
  rw [at32_four l i h]; omega
theorem pair_at (l : List UInt8) (i : Nat) (h : i + 2 ≤ l.length) : (l.getD i 0).toNat * 256 + (l.getD (i + 1) 0).toNat = at16 l i := by
  rw [at16_two l i (l.getD i 0) (l.getD (i + 1) 0) (by rw [List.getD_eq_getElem?_getD, List.getElem?_eq_getElem (by omega)]; rfl) (by rw [List.getD_eq_getElem?_getD, List.getElem?_eq_getElem (by omega)]; rfl)]
theorem pair_raw_at (l : List UInt8) (i : Nat) (h : i + 2 ≤ l.length) : bits BinOp.or IntKind.i64 (IntKind.wrap IntKind.i64 (IntKind.wrap IntKind.i64 (↑(UInt8.toNat (List.getD l i (0 : UInt8))) : Int) * (256 : Int))) (IntKind.wrap IntKind.i64 (↑(UInt8.toNat (List.getD l (i + 1) (0 : UInt8))) : Int)) = ((at16 l i : Nat) : Int) := by
  rw [pair_raw, pair_at l i h]
theorem head_raw (x : UInt8) : IntKind.wrap IntKind.i64 (IntKind.wrap IntKind.i64 (bits BinOp.and IntKind.u8 (↑(UInt8.toNat x) : Int) (15 : Int)) * (4 : Int)) = ((x.toNat % 16 * 4 : Nat) : Int) := by
  have hx := x.toNat_lt
  rw [u8_and15, w64 ((x.toNat : Int) % 16) (by omega), w64 _ (by omega)]
  omega

/-- what is known in chapter 6 -/
def k6 : Inl := orInl kTurn k69
theorem k6_ok : InlOk Try.prog k6 := orInl_ok kTurn_ok k69_ok
end Go.Proofs.Ytoekncmggjhmjaa
