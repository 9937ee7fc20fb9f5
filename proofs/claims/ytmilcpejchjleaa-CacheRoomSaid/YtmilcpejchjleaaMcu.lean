/- Several texts in one: Cu0, CuRun, Cu. -/
import Derived.Test.YtmilcpejchjleaaMcr
import Derived.Test.YtmilcpejchjleaaMez

/- The law CacheRoom: what its loop says at its head. -/
namespace Go.Proofs.Ytmilcpejchjleaa
open Go.RowKit

def seqU (n : Nat) (x : Nat → Int) : AV := .view 1 n fun k => [iU (x k)]
def cacheZ (room : Int) : AObj := objOne 109 [iI room, nilS]
def crG0 (room : Int) (n : Nat) (x : Nat → Int) : GoalX := { len := 97, tms := [(5, .ptr 0 0 0)], opn := [(0, iI room), (1, seqU n x), (7, sI 0)], oob := [(0, cacheZ room)], k := 1 }
def crG (room : Int) (n : Nat) (x : Nat → Int) (i : Nat) (l : List (Nat × Int)) : GoalX := { len := 97, tms := [(5, .ptr 0 0 0)], opn := [(0, iI room), (1, seqU n x), (7, sI i)], oob := [(0, cacheO room l.length 1), (1, kObj l)], k := 2 }
def kObj1 (y : Nat × Int) : AObj := objAppR 114 11 [krow y]
def crG1 (room : Int) (n : Nat) (x : Nat → Int) (y : Nat × Int) : GoalX := { len := 97, tms := [(5, .ptr 0 0 0)], opn := [(0, iI room), (1, seqU n x), (7, sI 1)], oob := [(0, cacheO room 1 1), (1, kObj1 y)], k := 2 }
def crE0 (room : Int) (n : Nat) (x : Nat → Int) : GoalX := { len := 97, tms := [(5, .ptr 0 0 0)], opn := [(0, iI room), (1, seqU n x)], oob := [(0, cacheZ room)], k := 1 }
def crE (room : Int) (n : Nat) (x : Nat → Int) (l : List (Nat × Int)) : GoalX := { len := 97, tms := [(5, .ptr 0 0 0)], opn := [(0, iI room), (1, seqU n x)], oob := [(0, cacheO room l.length 1), (1, kObj l)], k := 2 }
def crN : GoalX := { len := 97, opn := [(4, .val (.bool true))] }
def crL0 (room : Int) (n : Nat) (x : Nat → Int) (id : Nat) : LoopX := { ids := [id], G := crG0 room n x, ex := .exit 0, E := crE0 room n x }
def crL (room : Int) (n : Nat) (x : Nat → Int) (l : List (Nat × Int)) (id : Nat) : LoopX := { ids := [id], G := crG0 room n x, ex := .exit 0, E := crE room n x l }
def crR (room : Int) (n : Nat) (x : Nat → Int) (id : Nat) : LoopX := { ids := [id], G := crG0 room n x, ex := .ret, E := crN }
/-- counting: the loop of Len -/
def lnG (room : Int) (l : List (Nat × Int)) (i : Nat) : GoalX := { len := 24, opn := [(11, .sl 1 0 l.length none), (12, sI l.length), (13, sI i), (5, sI i), (1, iI 0)], oob := [(0, cacheO room l.length 1), (1, kObj l)], k := 0 }
def lnE (room : Int) (l : List (Nat × Int)) : GoalX := { len := 24, opn := [(5, sI l.length)], oob := [(0, cacheO room l.length 1), (1, kObj l)], k := 0 }
def lnL (room : Int) (l : List (Nat × Int)) : LoopX := { ids := [], G := lnG room l 0, ex := .exit 0, E := lnE room l }
end Go.Proofs.Ytmilcpejchjleaa

/- The law CacheRoom (runs of an answer made, and of counting). No condition. -/
namespace Go.Proofs.Ytmilcpejchjleaa
open Go.RowKit

set_option maxRecDepth 100000 in
theorem cu_told (n : Nat) (t : Int) : outXS kCa [(28, { ob := [(2, 7)] })] Try.prog 28 [AV.val (Value.int IntKind.i64 (↑n : Int)), AV.val (Value.int IntKind.u32 t)] [] 0 [6, 12, 14] [] =
   some (AV.agg [AV.val (Value.int IntKind.i64 (9 : Int)), AV.val (Value.int IntKind.i64 (33152 : Int)), AV.sl 6 0 1 none, AV.sl 14 0 1 none, AV.val (Value.slice none 0 0), AV.val (Value.slice none 0 0)], [(6, { t := 31, sz := 3, exact := true, fz := false, body := Body.rows [[AV.view 1 1 fun i => [AV.val (Value.string { data := List.toArray (List.getD [nmB n] i []) })], AV.val (Value.int IntKind.i64 (1 : Int)), AV.val (Value.int IntKind.i64 (1 : Int))]] }), (12, { t := 5, sz := 1, exact := true, fz := false, body := Body.bytes [(1 : UInt8), (2 : UInt8), (3 : UInt8), UInt8.ofNat (Int.toNat (IntKind.wrap IntKind.u8 (↑n : Int)))] }), (14, { t := 42, sz := 5, exact := true, fz := false, body := Body.rows [[AV.view 1 1 fun i => [AV.val (Value.string { data := List.toArray (List.getD [nmB n] i []) })], AV.val (Value.int IntKind.i64 (1 : Int)), AV.val (Value.int IntKind.i64 (1 : Int)), AV.val (Value.int IntKind.u32 t), AV.sl 12 0 4 none]] })], 17,
   ((0 : Int) ≤ (↑n : Int)) ::
   ((↑n : Int) < (128 : Int)) ::
   (∀ (x : AV), x ∈ [AV.val (Value.int IntKind.u8 (1 : Int)), AV.val (Value.int IntKind.u8 (2 : Int)), AV.val (Value.int IntKind.u8 (3 : Int)), AV.val (Value.int IntKind.u8 (IntKind.wrap IntKind.u8 (↑n : Int)))] → isByteAV x) :: []) := by kernel_rfl

set_option maxRecDepth 100000 in
theorem ln_step (room : Int) (l : List (Nat × Int)) (i : Nat) (y : Nat) (t : Int) : stepXS kN2 [(30, { op := [(4, 1, Hn.row (krow (y, t)))], br := [(14, true), (19, true)], ob := [(4, 0)] })] Try.prog 30 3 (lnG room l i) (lnG room l (i + 1)) [] 2 [] =
   some (.normal,
   (decide ((↑i : Int) < (↑(List.length l) : Int)) = true) ::
   ((0 : Int) ≤ (↑i : Int) ∧ (↑i : Int) < (↑(List.length l) : Int)) ::
   ((krows l)[0 + i]? = some [AV.view 1 1 fun i => [AV.val (Value.string { data := List.toArray (List.getD [nmB y] i []) })], AV.val (Value.int IntKind.i64 (1 : Int)), AV.val (Value.int IntKind.i64 (1 : Int)), AV.val (Value.int IntKind.i64 (9 : Int)), AV.val (Value.int IntKind.i64 (33152 : Int)), AV.val (Value.slice none 0 0), AV.view 5 1 fun i => [AV.view 1 (List.length (List.getD [kr (Prod.fst (y, t)) (Prod.snd (y, t))] i dr0).1) fun i_1 => [AV.val (Value.string { data := List.toArray (List.getD (List.getD [kr (Prod.fst (y, t)) (Prod.snd (y, t))] i dr0).1 i_1 []) })], AV.val (Value.int IntKind.i64 (List.getD [kr (Prod.fst (y, t)) (Prod.snd (y, t))] i dr0).2), AV.val (Value.int IntKind.i64 (List.getD [kr (Prod.fst (y, t)) (Prod.snd (y, t))] i dr0).3), AV.val (Value.int IntKind.u32 (List.getD [kr (Prod.fst (y, t)) (Prod.snd (y, t))] i dr0).4), AV.bytes (List.getD [kr (Prod.fst (y, t)) (Prod.snd (y, t))] i dr0).5], AV.val (Value.slice none 0 0), AV.val (Value.slice none 0 0), AV.val (Value.int IntKind.i64 (0 : Int)), AV.val (Value.int IntKind.i64 t)]) ::
   (decide ((0 : Int) < t) = true) ::
   (AV.sl 1 0 (List.length l) none = AV.sl 1 0 (List.length l) none) ::
   (AV.val (Value.int IntKind.i64 (↑(List.length l) : Int)) = AV.val (Value.int IntKind.i64 (↑(List.length l) : Int))) ::
   rp 2 (AV.val (Value.int IntKind.i64 (IntKind.wrap IntKind.i64 ((↑i : Int) + (1 : Int)))) = AV.val (Value.int IntKind.i64 (↑(i + 1) : Int))) (
   (AV.val (Value.int IntKind.i64 (0 : Int)) = AV.val (Value.int IntKind.i64 (0 : Int))) ::
   (SameO (some { t := 109, sz := 2, exact := true, fz := false, body := Body.rows [[AV.val (Value.int IntKind.i64 room), AV.sl 1 0 (List.length l) none]] }) { t := 109, sz := 2, exact := true, fz := false, body := Body.rows [[AV.val (Value.int IntKind.i64 room), AV.sl 1 0 (List.length l) none]] }) ::
   (SameO (some { t := 114, sz := 11, exact := false, fz := false, body := Body.flat (krows l) }) { t := 114, sz := 11, exact := false, fz := false, body := Body.flat (List.map (fun x => (AV.brecOn_1.go x (AV.ren._f (renX 2 [] 28)) (renL._f (renX 2 [] 28))).1) (krows l)) }) :: [])) := by kernel_rfl

set_option maxRecDepth 100000 in
theorem ln_end (room : Int) (l : List (Nat × Int)) : stepXS kN2 [(30, { br := [(14, false)] })] Try.prog 30 3 (lnG room l (List.length l)) (lnE room l) [] 2 [] =
   some (.exit 0,
   (decide ((↑(List.length l) : Int) < (↑(List.length l) : Int)) = false) ::
   (AV.val (Value.int IntKind.i64 (↑(List.length l) : Int)) = AV.val (Value.int IntKind.i64 (↑(List.length l) : Int))) ::
   (SameO (some { t := 109, sz := 2, exact := true, fz := false, body := Body.rows [[AV.val (Value.int IntKind.i64 room), AV.sl 1 0 (List.length l) none]] }) { t := 109, sz := 2, exact := true, fz := false, body := Body.rows [[AV.val (Value.int IntKind.i64 room), AV.sl 1 0 (List.length l) none]] }) ::
   (SameO (some { t := 114, sz := 11, exact := false, fz := false, body := Body.flat (krows l) }) { t := 114, sz := 11, exact := false, fz := false, body := Body.flat (List.map (fun x => (AV.brecOn_1.go x (AV.ren._f (renX 2 [] 3)) (renL._f (renX 2 [] 3))).1) (krows l)) }) :: []) := by kernel_rfl

set_option maxRecDepth 100000 in
theorem ln_all (room : Int) (l : List (Nat × Int)) : outXS kN2 [] Try.prog 30 [AV.ptr 0 0 0, AV.val (Value.int IntKind.i64 (0 : Int))] [(0, { t := 109, sz := 2, exact := true, fz := false, body := Body.rows [[AV.val (Value.int IntKind.i64 room), AV.sl 1 0 (List.length l) none]] }), (1, { t := 114, sz := 11, exact := false, fz := false, body := Body.flat (krows l) })] 2 [0, 1] [(3, lnL room l)] =
   some (AV.val (Value.int IntKind.i64 (↑(List.length l) : Int)), [(0, { t := 109, sz := 2, exact := true, fz := false, body := Body.rows [[AV.val (Value.int IntKind.i64 room), AV.sl 1 0 (List.length l) none]] }), (1, { t := 114, sz := 11, exact := false, fz := false, body := Body.flat (krows l) })], 4,
   (AV.sl 1 0 (List.length l) none = AV.sl 1 0 (List.length l) none) ::
   (AV.val (Value.int IntKind.i64 (↑(List.length l) : Int)) = AV.val (Value.int IntKind.i64 (↑(List.length l) : Int))) ::
   rp 3 (AV.val (Value.int IntKind.i64 (0 : Int)) = AV.val (Value.int IntKind.i64 (0 : Int))) (
   (SameO (some { t := 109, sz := 2, exact := true, fz := false, body := Body.rows [[AV.val (Value.int IntKind.i64 room), AV.sl 1 0 (List.length l) none]] }) { t := 109, sz := 2, exact := true, fz := false, body := Body.rows [[AV.val (Value.int IntKind.i64 room), AV.sl 1 0 (List.length l) none]] }) ::
   (SameO (some { t := 114, sz := 11, exact := false, fz := false, body := Body.flat (krows l) }) { t := 114, sz := 11, exact := false, fz := false, body := Body.flat (List.map (fun x => (AV.brecOn_1.go x (AV.ren._f (renX 2 [] 10)) (renL._f (renX 2 [] 10))).1) (krows l)) }) ::
   (EvXL Try.prog 2 (loopAt Try.prog 30 3) (GoalX.st (LoopX.G (lnL room l)) 2) (LoopX.ex (lnL room l)) (GoalX.st (LoopX.E (lnL room l)) 2)) :: [])) := by kernel_rfl
end Go.Proofs.Ytmilcpejchjleaa

/- The law CacheRoom: an answer made; counting what is kept: contracts. -/
namespace Go.Proofs.Ytmilcpejchjleaa
open Go.RowKit
set_option linter.unusedSimpArgs false
set_option linter.unusedVariables false

theorem byte_raw {n : Nat} (h : n < 128) : UInt8.ofNat (Int.toNat (IntKind.wrap IntKind.u8 (n : Int))) = UInt8.ofNat n := by
  rw [wu8]
  congr 1
  omega
theorem told_call (n : Nat) (t : Int) (h : n < 128) : ACall Try.prog 28 [sI n, iU t] [] 0 (mA n t) [] 100 := by
  have h0 := outXS_ok kCa_ok (cu_told n t) (by
    refine allCons (by omega) (allCons (by omega) (allCons (fun y hy => ?_) allNil))
    simp only [List.mem_cons, List.not_mem_nil, or_false] at hy
    rcases hy with rfl | rfl | rfl | rfl
    · exact (isB _).2 (by omega)
    · exact (isB _).2 (by omega)
    · exact (isB _).2 (by omega)
    · exact (isB _).2 ⟨by rw [wu8]; omega, by rw [wu8]; omega⟩)
  simp only [Int.toNat_natCast, byte_raw h] at h0
  have h1 := ACall.toldO (L2 := [(6, ⟨31, 3, true, false, .rows [[vS [nmB n], iI 1, iI 1]]⟩), (14, ⟨42, 5, true, false, .rows [[vS [nmB n], iI 1, iI 1, iU t, .bytes [1, 2, 3, UInt8.ofNat n]]]⟩)]) [12] h0 (fun id hid => by
    have e := List.mem_singleton.1 hid
    subst e
    exact ⟨_, rfl⟩) (fun id x hid => by
    simp only [hp] at hid
    split at hid
    · rename_i e
      subst e
      injection hid with hid
      subst hid
      exact ⟨by decide, _, rfl, fun E w hs => .same _ _⟩
    · split at hid
      · rename_i e
        subst e
        injection hid with hid
        subst hid
        exact ⟨by decide, _, rfl, fun E w hs => rrow_told (fun v hv => hv.more (more_frz E w [12])) (fun v hv => Rep.frzB (id := 12) hs rfl (by decide) rfl rfl rfl hv)⟩
      · cases hid) (fun E w u hs hr => hr.more (more_frz E w [12]))
  refine (ACall.told [6, 14] h1 (fun id hid => by
    simp only [List.mem_cons, List.not_mem_nil, or_false] at hid
    rcases hid with rfl | rfl
    · exact ⟨_, rfl⟩
    · exact ⟨_, rfl⟩) (fun id x hid => by cases hid) fun E w u hs hr => ?_).upTo (by decide)
  refine hr.aggF rfl fun k p p' v g1 g2 g3 => ?_
  match k with
  | 0 => simp at g1 g2; subst g1 g2; exact g3.valF
  | 1 => simp at g1 g2; subst g1 g2; exact g3.valF
  | 2 => simp at g1 g2; subst g1 g2; exact WQ.frzRows (id := 6) (ls := [kq n]) hs rfl (by decide) (.inl rfl) rfl rfl g3
  | 3 => simp at g1 g2; subst g1 g2; exact WR.frzRows (id := 14) (ls := [kr n t]) hs rfl (by decide) (.inl rfl) rfl rfl g3
  | 4 => simp [nilS] at g1 g2; subst g1 g2; exact g3.valF
  | 5 => simp [nilS] at g1 g2; subst g1 g2; exact g3.valF
  | k + 6 => simp at g1

def kTold : Inl := fun g xs L nx =>
  if g = 28 then
    match xs with
    | [.val (.int .i64 n), .val (.int .u32 t)] => some (mA n.toNat t, L, nx, [0 ≤ n, n < 128])
    | _ => none
  else none
theorem mA_ren (n : Nat) (t : Int) (r : Nat → Nat) : (mA n t).ren r = mA n t := rfl
theorem kTold_ok : InlOk Try.prog kTold := by
  intro g xs L nx w L' nx' q h hq
  unfold kTold at h
  split at h
  · rename_i hg
    subst hg
    split at h
    · rename_i n t
      simp only [Option.some.injEq, Prod.mk.injEq] at h
      obtain ⟨rfl, rfl, rfl, rfl⟩ := h
      simp only [List.forall_mem_cons, List.not_mem_nil, false_implies, implies_true, and_true] at hq
      obtain ⟨q1, q2⟩ := hq
      have := ACall.liftV (told_call n.toNat t (by omega)) (fun r => rfl) (fun r => mA_ren _ _ r) L nx
      rw [show sI n.toNat = .val (.int .i64 n) from by unfold sI; rw [Int.toNat_of_nonneg q1]] at this
      exact ⟨this, Nat.le_refl _⟩
    · cases h
  · cases h

/-! ### counting -/
theorem ln_loop (room : Int) (l : List (Nat × Int)) (hl : l.length ≤ 1000000) (hp : ∀ x ∈ l, 0 < x.2) : ∀ (k i : Nat), i + k = l.length →
    EvXL Try.prog 2 (loopAt Try.prog 30 3) ((lnG room l i).st 2) (.exit 0) ((lnE room l).st 2)
  | 0, i, hk => by
    obtain rfl : i = l.length := by omega
    exact EvXL.last (stepXS_ok kN2_ok (ln_end room l) (by
      repeat' (first | exact allNil | refine allCons ?_ ?_ | (with_reducible refine allRp _ ?_ ?_))
      all_goals first | (with_reducible rfl) | exact decide_eq_false (by omega) | exact same_kr (fun _ => rfl) rfl | exact rfl)) (by simp)
  | k + 1, i, hk => by
    have hi : i < l.length := by omega
    have hx : l[i]? = some (l[i].1, l[i].2) := List.getElem?_eq_getElem hi
    have h0 : 0 < l[i].2 := hp _ (List.getElem_mem hi)
    refine EvXL.step (stepXS_ok kN2_ok (ln_step room l i l[i].1 l[i].2) ?_) (ln_loop room l hl hp k (i + 1) (by omega))
    repeat' (first | exact allNil | refine allCons ?_ ?_ | (with_reducible refine allRp _ ?_ ?_))
    all_goals first | (with_reducible rfl) | exact decide_eq_true h0 | exact decide_eq_true (by omega) | omega | (rw [Nat.zero_add]; exact krows_get hx) | exact sI_succ i (by omega) | exact same_kr (fun _ => rfl) rfl | exact rfl
theorem ln_call (room : Int) (l : List (Nat × Int)) (hl : l.length ≤ 1000000) (hp : ∀ x ∈ l, 0 < x.2) : ACall Try.prog 30 [.ptr 0 0 0, iI 0] [(0, cacheO room l.length 1), (1, kObj l)] 2 (sI l.length) [(0, cacheO room l.length 1), (1, kObj l)] 100 := by
  refine (outXS_ok kN2_ok (ln_all room l) ?_).upTo (by decide)
  repeat' (first | exact allNil | refine allCons ?_ ?_ | (with_reducible refine allRp _ ?_ ?_))
  all_goals first | (with_reducible rfl) | exact ln_loop room l hl hp l.length 0 (by omega) | exact same_kr (fun _ => rfl) rfl | exact rfl

def kLen : Inl := fun g xs L nx =>
  if g = 30 then
    match xs with
    | [.ptr id 0 0, .val (.int .i64 0)] =>
      match Go.Proofs.Ytmilcpejchjleaa.hp L id with
      | some ⟨t1, 2, true, false, .rows [[.val (.int .i64 room), .sl id2 0 n none]]⟩ =>
        match Go.Proofs.Ytmilcpejchjleaa.hp L id2 with
        | some ⟨t2, 11, false, false, .flat l⟩ =>
          if t1 = 109 ∧ t2 = 114 ∧ id < nx ∧ id2 < nx ∧ nodupB [id, id2] = true then
            some (sI n, L, nx + 98, [l = krows (kal l), n = l.length, n ≤ 1000000, ∀ y ∈ kal l, 0 < y.2])
          else none
        | _ => none
      | _ => none
    | _ => none
  else none
theorem kLen_ok : InlOk Try.prog kLen := by
  intro g xs L nx v L' nx' q h hq
  unfold kLen at h
  split at h
  · rename_i hg
    subst hg
    split at h
    · rename_i id
      split at h
      · rename_i t1 room id2 n q0
        split at h
        · rename_i t2 l q1
          split at h
          · rename_i hc
            simp only [Option.some.injEq, Prod.mk.injEq] at h
            obtain ⟨rfl, rfl, rfl, rfl⟩ := h
            obtain ⟨rfl, rfl, c0, c1, hnd⟩ := hc
            simp only [List.forall_mem_cons, List.not_mem_nil, false_implies, implies_true, and_true] at hq
            obtain ⟨e1, rfl, hn, h0⟩ := hq
            refine ⟨?_, by omega⟩
            have hl : (kal l).length = l.length := by unfold kal; exact List.length_map _
            have k := ln_call room (kal l) (by omega) h0
            have u := ACall.usedW (ids := [id, id2]) (K := L) (nx := nx) (k : ACall Try.prog _ _ _ [id, id2].length _ _ 100) (nodupB_ok hnd) (by simp [c0, c1]) (by simp) (fun m y hm => ?_) (fun m hm => ?_) rfl
            · rw [hl] at u
              exact u
            · simp only [Go.Proofs.Ytmilcpejchjleaa.hp] at hm
              split at hm
              · rename_i e; subst e; injection hm with hm; subst hm
                refine ⟨by simp, ?_⟩
                show Go.Proofs.Ytmilcpejchjleaa.hp L id = _
                rw [q0, hl]
                rfl
              · split at hm
                · rename_i e; subst e; injection hm with hm; subst hm
                  refine ⟨by simp, ?_⟩
                  rw [ren_kr]
                  show Go.Proofs.Ytmilcpejchjleaa.hp L id2 = _
                  rw [q1]
                  unfold kObj
                  rw [← e1]
                · cases hm
            · match m, hm with
              | 0, _ => exact ⟨_, rfl⟩
              | 1, _ => exact ⟨_, rfl⟩
          · cases h
        · cases h
      · cases h
    · cases h
  · cases h

def kCh : Inl := orInl kLen (orInl kTold kCf)
theorem kCh_ok : InlOk Try.prog kCh := orInl_ok kLen_ok (orInl_ok kTold_ok kCf_ok)
def kCm : Inl := orInl kMk kCh
theorem kCm_ok : InlOk Try.prog kCm := orInl_ok kMk_ok kCh_ok
end Go.Proofs.Ytmilcpejchjleaa
