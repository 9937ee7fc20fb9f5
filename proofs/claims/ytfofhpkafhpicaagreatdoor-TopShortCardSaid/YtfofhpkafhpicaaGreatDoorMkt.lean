/- Several texts in one: RdT, Kt, Sr. -/
import Derived.Test.YtfofhpkafhpicaaGreatDoorMez
import Derived.Test.YtfofhpkafhpicaaGreatDoorCard
import Derived.Test.YtfofhpkafhpicaaGreatDoorFx
import Derived.Test.YtfofhpkafhpicaaGreatDoorMpw
import Derived.Test.YtfofhpkafhpicaaGreatDoorMbw

/- Readers, reckoned: numbers of one, two, four bytes. (Printed by wip/tools/gen.py from wip/sym/XSRd.lean for the seat of chapters 18 and 19.) -/
namespace Go.Proofs.YtfofhpkafhpicaaGreatDoor
open Go.RowKit

set_option maxRecDepth 100000 in
theorem ru8_run (xs : List UInt8) (off : Nat) (n : Nat) (t1 : Nat) (t2 : Nat) (x1 : Bool) (z1 : Bool) (x2 : Bool) (z2 : Bool) : outT noneKnown [(285, { op := [(4, 1, .get)], ob := [(2, 2), (4, 1)] }),
   (185, { br := [(16, false)], ob := [(4, 6), (5, 6), (6, 2)] }),
   (291, { ob := [(1, 1)] })] Tryz.prog 291 [AV.ptr (0 : Nat) (0 : Nat) (0 : Nat)] [(0, { t := t1, sz := (2 : Nat), exact := x1, fz := z1, body := Body.rows [[AV.sl (1 : Nat) off n none, AV.val (Value.bool false)]] }), (1, { t := t2, sz := (1 : Nat), exact := x2, fz := z2, body := Body.bytes xs })] 2 =
   some (AV.val (Value.int IntKind.i64 (IntKind.wrap IntKind.i64 (bits BinOp.or IntKind.u32 (0 : Int) (IntKind.wrap IntKind.u32 (↑(UInt8.toNat (List.getD (List.take (1 : Nat) (List.drop off xs)) (0 : Nat) (0 : UInt8))) : Int))))), [(1, { t := t2, sz := (1 : Nat), exact := x2, fz := z2, body := Body.bytes xs }), (0, { t := t1, sz := (2 : Nat), exact := x1, fz := z1, body := Body.rows [[AV.sl (1 : Nat) (off + (1 : Nat)) (n - (1 : Nat)) none, AV.val (Value.bool false)]] })], 63,
   [decide ((1 : Int) > (↑n : Int)) = false,
   (0 : Int) ≤ (0 : Int),
   (0 : Int) ≤ (1 : Int),
   (0 : Int) ≤ (1 : Int),
   (0 : Nat) ≤ (1 : Nat) ∧ (1 : Nat) ≤ (1 : Nat) ∧ off + (1 : Nat) ≤ List.length xs,
   (0 : Int) ≤ (1 : Int),
   (0 : Int) ≤ (↑n : Int),
   (1 : Nat) ≤ n ∧ off + n ≤ List.length xs,
   off + (1 : Nat) ≤ List.length xs,
   (0 : Nat) = (0 : Nat) ∧ (0 : Nat) + (1 : Nat) ≤ (1000000000 : Nat),
   (0 : Nat) < List.length (List.take (1 : Nat) (List.drop off xs))]) := by kernel_rfl

set_option maxRecDepth 100000 in
theorem ru16_run (xs : List UInt8) (off : Nat) (n : Nat) (t1 : Nat) (t2 : Nat) (x1 : Bool) (z1 : Bool) (x2 : Bool) (z2 : Bool) : outT noneKnown [(285, { op := [(4, 1, .get)], ob := [(2, 2), (4, 1)] }),
   (185, { br := [(16, false)], ob := [(4, 6), (5, 6), (6, 2)] }),
   (184, { ob := [(1, 1)] })] Tryz.prog 184 [AV.ptr (0 : Nat) (0 : Nat) (0 : Nat)] [(0, { t := t1, sz := (2 : Nat), exact := x1, fz := z1, body := Body.rows [[AV.sl (1 : Nat) off n none, AV.val (Value.bool false)]] }), (1, { t := t2, sz := (1 : Nat), exact := x2, fz := z2, body := Body.bytes xs })] 2 =
   some (AV.val (Value.int IntKind.i64 (IntKind.wrap IntKind.i64 (bits BinOp.or IntKind.u32 (IntKind.wrap IntKind.u32 (bits BinOp.or IntKind.u32 (0 : Int) (IntKind.wrap IntKind.u32 (↑(UInt8.toNat (List.getD (List.take (2 : Nat) (List.drop off xs)) (0 : Nat) (0 : UInt8))) : Int)) * (256 : Int))) (IntKind.wrap IntKind.u32 (↑(UInt8.toNat (List.getD (List.take (2 : Nat) (List.drop off xs)) (1 : Nat) (0 : UInt8))) : Int))))), [(1, { t := t2, sz := (1 : Nat), exact := x2, fz := z2, body := Body.bytes xs }), (0, { t := t1, sz := (2 : Nat), exact := x1, fz := z1, body := Body.rows [[AV.sl (1 : Nat) (off + (2 : Nat)) (n - (2 : Nat)) none, AV.val (Value.bool false)]] })], 75,
   [decide ((2 : Int) > (↑n : Int)) = false,
   (0 : Int) ≤ (0 : Int),
   (0 : Int) ≤ (2 : Int),
   (0 : Int) ≤ (2 : Int),
   (0 : Nat) ≤ (2 : Nat) ∧ (2 : Nat) ≤ (2 : Nat) ∧ off + (2 : Nat) ≤ List.length xs,
   (0 : Int) ≤ (2 : Int),
   (0 : Int) ≤ (↑n : Int),
   (2 : Nat) ≤ n ∧ off + n ≤ List.length xs,
   off + (2 : Nat) ≤ List.length xs,
   (0 : Nat) = (0 : Nat) ∧ (0 : Nat) + (2 : Nat) ≤ (1000000000 : Nat),
   (0 : Nat) < List.length (List.take (2 : Nat) (List.drop off xs)),
   (1 : Nat) < List.length (List.take (2 : Nat) (List.drop off xs))]) := by kernel_rfl

set_option maxRecDepth 100000 in
theorem ru32_run (xs : List UInt8) (off : Nat) (n : Nat) (t1 : Nat) (t2 : Nat) (x1 : Bool) (z1 : Bool) (x2 : Bool) (z2 : Bool) : outT noneKnown [(285, { op := [(4, 1, .get)], ob := [(2, 2), (4, 1)] }),
   (292, { ob := [(1, 1)] }),
   (185, { br := [(16, false)], ob := [(4, 6), (5, 6), (6, 2)] })] Tryz.prog 292 [AV.ptr (0 : Nat) (0 : Nat) (0 : Nat)] [(0, { t := t1, sz := (2 : Nat), exact := x1, fz := z1, body := Body.rows [[AV.sl (1 : Nat) off n none, AV.val (Value.bool false)]] }), (1, { t := t2, sz := (1 : Nat), exact := x2, fz := z2, body := Body.bytes xs })] 2 =
   some (AV.val (Value.int IntKind.u32 (bits BinOp.or IntKind.u32 (IntKind.wrap IntKind.u32 (bits BinOp.or IntKind.u32 (IntKind.wrap IntKind.u32 (bits BinOp.or IntKind.u32 (IntKind.wrap IntKind.u32 (bits BinOp.or IntKind.u32 (0 : Int) (IntKind.wrap IntKind.u32 (↑(UInt8.toNat (List.getD (List.take (4 : Nat) (List.drop off xs)) (0 : Nat) (0 : UInt8))) : Int)) * (256 : Int))) (IntKind.wrap IntKind.u32 (↑(UInt8.toNat (List.getD (List.take (4 : Nat) (List.drop off xs)) (1 : Nat) (0 : UInt8))) : Int)) * (256 : Int))) (IntKind.wrap IntKind.u32 (↑(UInt8.toNat (List.getD (List.take (4 : Nat) (List.drop off xs)) (2 : Nat) (0 : UInt8))) : Int)) * (256 : Int))) (IntKind.wrap IntKind.u32 (↑(UInt8.toNat (List.getD (List.take (4 : Nat) (List.drop off xs)) (3 : Nat) (0 : UInt8))) : Int)))), [(1, { t := t2, sz := (1 : Nat), exact := x2, fz := z2, body := Body.bytes xs }), (0, { t := t1, sz := (2 : Nat), exact := x1, fz := z1, body := Body.rows [[AV.sl (1 : Nat) (off + (4 : Nat)) (n - (4 : Nat)) none, AV.val (Value.bool false)]] })], 98,
   [decide ((4 : Int) > (↑n : Int)) = false,
   (0 : Int) ≤ (0 : Int),
   (0 : Int) ≤ (4 : Int),
   (0 : Int) ≤ (4 : Int),
   (0 : Nat) ≤ (4 : Nat) ∧ (4 : Nat) ≤ (4 : Nat) ∧ off + (4 : Nat) ≤ List.length xs,
   (0 : Int) ≤ (4 : Int),
   (0 : Int) ≤ (↑n : Int),
   (4 : Nat) ≤ n ∧ off + n ≤ List.length xs,
   off + (4 : Nat) ≤ List.length xs,
   (0 : Nat) = (0 : Nat) ∧ (0 : Nat) + (4 : Nat) ≤ (1000000000 : Nat),
   (0 : Nat) < List.length (List.take (4 : Nat) (List.drop off xs)),
   (1 : Nat) < List.length (List.take (4 : Nat) (List.drop off xs)),
   (2 : Nat) < List.length (List.take (4 : Nat) (List.drop off xs)),
   (3 : Nat) < List.length (List.take (4 : Nat) (List.drop off xs))]) := by kernel_rfl
end Go.Proofs.YtfofhpkafhpicaaGreatDoor

/- Contracts for the engine: sums, readers. -/
namespace Go.Proofs.YtfofhpkafhpicaaGreatDoor
open Go.RowKit

section

variable {P : Program} {E : Env} {H : Heap} {w w' : World} {nx : Nat}

/-- what was said of a world is so still where no block of it has turned -/
theorem Sat.after (s : Sat E nx H w) (b : Below w.heap.size w w') : Sat E nx H w' := by
  have m : More E w E w' := ⟨fun _ _ h => h, fun _ h => h, fun k hk => b.block k (s.imm k hk)⟩
  refine ⟨fun id o h => ?_, s.inj, s.fresh, fun k hk => Nat.lt_of_lt_of_le (s.imm k hk) b.size⟩
  obtain ⟨p, hp', ro⟩ := s.rows _ _ h
  refine ⟨p, hp', ?_⟩
  cases p with
  | nil => exact ro
  | at_ g c z => exact ro.more m ro.2.1 (b.block g (s.lt h hp'))

theorem Ext.after {N : Nat → Prop} (b : Below w.heap.size w w') : Ext E H w N E H w' :=
  ⟨fun _ _ h => h, fun _ _ h => .inl h, fun _ h => h, fun _ h => .inl h, fun k hk _ => b.block k hk, fun _ h => .inl h, b.size, b.os, b.tape, b.output⟩

end

/-- a call that yields a plain value and leaves all as it was -/
theorem ACall.plain {P : Program} {g : FuncId} {xs : List AV} {L : List (Nat × AObj)} {nx : Nat} {v : Value}
    (h : ∀ E w vs, Sat E nx (hp L) w → Reps E w xs vs → Calls P g vs w fun e w' => e = .returned v ∧ Below w.heap.size w w') : ACall P g xs L nx (.val v) L nx := by
  intro E w vs hs hr
  refine Calls.mono (h E w vs hs hr) fun e w' ⟨he, b⟩ => ?_
  exact ⟨E, v, he, hs.after b, .val _, Ext.after b⟩

theorem reps1 {E : Env} {w : World} {x : AV} {vs : Array Value} (h : Reps E w [x] vs) : ∃ u, vs = #[u] ∧ Rep E w x u := by
  obtain ⟨h1, h2⟩ := h
  have hs : vs.size = 1 := h1
  refine ⟨vs[0], ?_, h2 0 x _ rfl (by simp [hs])⟩
  apply Array.ext <;> simp_all

theorem reps2 {E : Env} {w : World} {x y : AV} {vs : Array Value} (h : Reps E w [x, y] vs) : ∃ u v, vs = #[u, v] ∧ Rep E w x u ∧ Rep E w y v := by
  obtain ⟨h1, h2⟩ := h
  have hs : vs.size = 2 := h1
  refine ⟨vs[0], vs[1], ?_, h2 0 x _ rfl (by simp [hs]), h2 1 y _ rfl (by simp [hs])⟩
  apply Array.ext
  · simp [hs]
  · intro i h3 h4
    have : i = 0 ∨ i = 1 := by omega
    rcases this with rfl | rfl <;> simp

/-! ### sums, numbers at places -/

theorem drewN_below (w : World) (k : Nat) : Below w.heap.size w (w.drewN k) := ⟨rfl, rfl, rfl, Nat.le_refl _, fun _ _ => rfl⟩

def kSum : Inl := fun g xs L nx =>
  match xs with
  | [x] =>
    if g = 331 then
      match bytesOf (hp L) x with
      | some (ys, p) => some (.val (.int .i64 (ofL ys : Nat)), L, nx, [p, ys.length ≤ 100000000])
      | none => none
    else if g = 372 then
      match bytesOf (hp L) x with
      | some (ys, p) => some (.val (.bool (ofL ys == 0)), L, nx, [p, ys.length ≤ 100000000])
      | none => none
    else none
  | _ => none

theorem kSum_ok : InlOk Tryz.prog kSum := by
  intro g xs L nx v L' nx' q h hq
  unfold kSum at h
  split at h
  · rename_i x
    split at h
    · rename_i hg
      split at h
      · rename_i ys p hb
        simp only [Option.some.injEq, Prod.mk.injEq] at h
        obtain ⟨rfl, rfl, rfl, rfl⟩ := h
        refine ⟨ACall.plain fun E w vs hs hr => ?_, Nat.le_refl _⟩
        obtain ⟨u, rfl, r⟩ := reps1 hr
        obtain ⟨A, n, c, rfl, rd⟩ := rd_of hs hb (hq _ List.mem_cons_self) r
        have hn : n ≤ 100000000 := by have := rd.len; have := hq _ (List.mem_cons_of_mem _ List.mem_cons_self); omega
        subst hg
        exact (of_any A n c ys 0 w.heap.size w hn rd).mono fun e w' ⟨h1, k, h2⟩ => ⟨h1, by rw [h2]; exact drewN_below w k⟩
      · cases h
    · split at h
      · rename_i hg
        split at h
        · rename_i ys p hb
          simp only [Option.some.injEq, Prod.mk.injEq] at h
          obtain ⟨rfl, rfl, rfl, rfl⟩ := h
          refine ⟨ACall.plain fun E w vs hs hr => ?_, Nat.le_refl _⟩
          obtain ⟨u, rfl, r⟩ := reps1 hr
          obtain ⟨A, n, c, rfl, rd⟩ := rd_of hs hb (hq _ List.mem_cons_self) r
          have hn : n ≤ 100000000 := by have := rd.len; have := hq _ (List.mem_cons_of_mem _ List.mem_cons_self); omega
          subst hg
          exact (fits_any A n c ys 0 w.heap.size w hn rd).mono fun e w' ⟨h1, k, h2⟩ => ⟨h1, by rw [h2]; exact drewN_below w k⟩
        · cases h
      · cases h
  · cases h

/-! ### readers -/

theorem wrap32_u8 (x : UInt8) : IntKind.u32.wrap (x.toNat : Int) = (x.toNat : Int) := by
  have := u8le x
  exact IntWalk.u32_in _ (by omega)

theorem wrap32_nat (n : Nat) (h : n ≤ 4294967295) : IntKind.u32.wrap (n : Int) = (n : Int) := IntWalk.u32_in _ (by omega)

theorem wrap64_nat (n : Nat) (h : n ≤ 4294967295) : IntKind.i64.wrap (n : Int) = (n : Int) := by
  rw [IntWalk.i64_in _ (by omega)]

theorem or_first (x : UInt8) : bits .or .u32 0 (IntKind.u32.wrap (x.toNat : Int)) = (x.toNat : Int) := by
  have := or_u32 0 x (by omega)
  rw [wrap32_u8]
  simpa using this

theorem or_next (v : Nat) (x : UInt8) (hv : v ≤ 16777215) : bits .or .u32 (IntKind.u32.wrap ((v : Int) * 256)) (IntKind.u32.wrap (x.toNat : Int)) = ((v * 256 + x.toNat : Nat) : Int) := by
  have h := wrap32_nat (v * 256) (by omega)
  have := or_u32 v x hv
  rw [show ((v : Int) * 256) = ((v * 256 : Nat) : Int) from by omega] at this ⊢
  rw [wrap32_u8, h]
  exact this

theorem at8_len (xs : List UInt8) (off : Nat) (h : off + 1 ≤ xs.length) : ((List.take 1 (List.drop off xs)).getD 0 0).toNat = at8 xs off := by
  unfold at8
  have hl : (List.take 1 (List.drop off xs)).length = 1 := by rw [List.length_take, List.length_drop]; omega
  match hm : List.take 1 (List.drop off xs), hl with
  | [a], _ => simp only [List.getD_cons_zero, beA, List.foldl_cons, List.foldl_nil]; omega

theorem at16_len (xs : List UInt8) (off : Nat) (h : off + 2 ≤ xs.length) : ((List.take 2 (List.drop off xs)).getD 0 0).toNat * 256 + ((List.take 2 (List.drop off xs)).getD 1 0).toNat = at16 xs off := by
  unfold at16
  have hl : (List.take 2 (List.drop off xs)).length = 2 := by simp; omega
  match hm : List.take 2 (List.drop off xs), hl with
  | [a, b], _ => simp [beA]

theorem at32_len (xs : List UInt8) (off : Nat) (h : off + 4 ≤ xs.length) : ((((List.take 4 (List.drop off xs)).getD 0 0).toNat * 256 + ((List.take 4 (List.drop off xs)).getD 1 0).toNat) * 256 + ((List.take 4 (List.drop off xs)).getD 2 0).toNat) * 256 + ((List.take 4 (List.drop off xs)).getD 3 0).toNat = at32 xs off := by
  unfold at32
  have hl : (List.take 4 (List.drop off xs)).length = 4 := by simp; omega
  match hm : List.take 4 (List.drop off xs), hl with
  | [a, b, c, d], _ => simp [beA]

/-- a reader in front of n bytes of an object's, from off on -/
def rdL (t1 t2 : Nat) (x1 z1 x2 z2 : Bool) (xs : List UInt8) (off n : Nat) : List (Nat × AObj) :=
  [(1, ⟨t2, 1, x2, z2, .bytes xs⟩), (0, ⟨t1, 2, x1, z1, .rows [[.sl 1 off n none, .val (.bool false)]]⟩)]

theorem hp_swap {a b : AObj} : ∀ id o, hp [(0, a), (1, b)] id = some o → hp [(1, b), (0, a)] id = some o := by
  intro id o h
  simp only [hp] at h ⊢
  by_cases h0 : id = 0
  · subst h0; simpa using h
  · rw [if_neg h0] at h
    by_cases h1 : id = 1
    · rw [if_pos h1] at h ⊢; exact h
    · rw [if_neg h1] at h; cases h

theorem ru8_c (xs : List UInt8) (off n t1 t2 : Nat) (x1 z1 x2 z2 : Bool) (h1 : 1 ≤ n) (h2 : off + n ≤ xs.length) :
    ACall Tryz.prog 291 [.ptr 0 0 0] (rdL t1 t2 x1 z1 x2 z2 xs off n) 2 (.val (.int .i64 (at8 xs off : Nat))) (rdL t1 t2 x1 z1 x2 z2 xs (off + 1) (n - 1)) 63 := by
  have h := (outT_ok noneKnown_ok (ru8_run xs off n t1 t2 x1 z1 x2 z2) (by
    repeat' (first | exact allNil | refine allCons ?_ ?_)
    all_goals first | decide | omega | (simp; omega))).1
  rw [or_first, at8_len xs off (by omega), wrap64_nat _ (by have := beA_bd (xs.drop off) 1; unfold at8; omega)] at h
  exact h.frame hp_swap fun id o ho => .inl ho

theorem ru16_c (xs : List UInt8) (off n t1 t2 : Nat) (x1 z1 x2 z2 : Bool) (h1 : 2 ≤ n) (h2 : off + n ≤ xs.length) :
    ACall Tryz.prog 184 [.ptr 0 0 0] (rdL t1 t2 x1 z1 x2 z2 xs off n) 2 (.val (.int .i64 (at16 xs off : Nat))) (rdL t1 t2 x1 z1 x2 z2 xs (off + 2) (n - 2)) 75 := by
  have h := (outT_ok noneKnown_ok (ru16_run xs off n t1 t2 x1 z1 x2 z2) (by
    repeat' (first | exact allNil | refine allCons ?_ ?_)
    all_goals first | decide | omega | (simp; omega))).1
  have hb := at16_lt xs off
  rw [or_first, or_next _ _ (by have := u8le (List.getD (List.take 2 (List.drop off xs)) 0 0); omega), at16_len xs off (by omega), wrap64_nat _ (by omega)] at h
  exact h.frame hp_swap fun id o ho => .inl ho

theorem ru32_c (xs : List UInt8) (off n t1 t2 : Nat) (x1 z1 x2 z2 : Bool) (h1 : 4 ≤ n) (h2 : off + n ≤ xs.length) :
    ACall Tryz.prog 292 [.ptr 0 0 0] (rdL t1 t2 x1 z1 x2 z2 xs off n) 2 (.val (.int .u32 (at32 xs off : Nat))) (rdL t1 t2 x1 z1 x2 z2 xs (off + 4) (n - 4)) 98 := by
  have h := (outT_ok noneKnown_ok (ru32_run xs off n t1 t2 x1 z1 x2 z2) (by
    repeat' (first | exact allNil | refine allCons ?_ ?_)
    all_goals first | decide | omega | (simp; omega))).1
  have u0 := u8le (List.getD (List.take 4 (List.drop off xs)) 0 0)
  have u1 := u8le (List.getD (List.take 4 (List.drop off xs)) 1 0)
  have u2 := u8le (List.getD (List.take 4 (List.drop off xs)) 2 0)
  rw [or_first, or_next _ _ (by omega), or_next _ _ (by omega), or_next _ _ (by omega), at32_len xs off (by omega)] at h
  exact h.frame hp_swap fun id o ho => .inl ho

/-- a reader's numbers, wherever it lies -/
def kRd : Inl := fun g xs L nx =>
  if g = 291 ∨ g = 184 ∨ g = 292 then
    match xs with
    | [.ptr id 0 0] =>
      match hp L id with
      | some ⟨t1, 2, x1, z1, .rows [[.sl id2 off n none, .val (.bool false)]]⟩ =>
        match hp L id2 with
        | some ⟨t2, 1, x2, z2, .bytes ys⟩ =>
          if id < nx ∧ id2 < nx ∧ id ≠ id2 then
            let k := if g = 291 then 1 else if g = 184 then 2 else 4
            some (if g = 291 then .val (.int .i64 (at8 ys off : Nat)) else if g = 184 then .val (.int .i64 (at16 ys off : Nat)) else .val (.int .u32 (at32 ys off : Nat)),
              [(id2, ⟨t2, 1, x2, z2, .bytes ys⟩), (id, ⟨t1, 2, x1, z1, .rows [[.sl id2 (off + k) (n - k) none, .val (.bool false)]]⟩)] ++ L.filter fun p => ![id, id2].contains p.1, nx + 100, [k ≤ n, off + n ≤ ys.length])
          else none
        | _ => none
      | _ => none
    | _ => none
  else none

theorem rd_used {g : FuncId} {v : Value} {k n1 : Nat} {t1 t2 : Nat} {x1 z1 x2 z2 : Bool} {ys : List UInt8} {off n id id2 nx : Nat} {L : List (Nat × AObj)}
    (h : ACall Tryz.prog g [.ptr 0 0 0] (rdL t1 t2 x1 z1 x2 z2 ys off n) 2 (.val v) (rdL t1 t2 x1 z1 x2 z2 ys (off + k) (n - k)) n1) (hn1 : 2 ≤ n1) (hn2 : n1 ≤ 102)
    (h1 : hp L id = some ⟨t1, 2, x1, z1, .rows [[.sl id2 off n none, .val (.bool false)]]⟩) (h2 : hp L id2 = some ⟨t2, 1, x2, z2, .bytes ys⟩) (h3 : id < nx ∧ id2 < nx ∧ id ≠ id2) :
    ACall Tryz.prog g [.ptr id 0 0] L nx (.val v) ([(id2, ⟨t2, 1, x2, z2, .bytes ys⟩), (id, ⟨t1, 2, x1, z1, .rows [[.sl id2 (off + k) (n - k) none, .val (.bool false)]]⟩)] ++ L.filter fun p => ![id, id2].contains p.1) (nx + 100) := by
  have := ACall.used (ids := [id, id2]) (K := L) (nx := nx) (h : ACall Tryz.prog g [.ptr 0 0 0] (rdL t1 t2 x1 z1 x2 z2 ys off n) [id, id2].length (.val v) _ n1)
    (by simp [h3.2.2]) (by simp [h3.1, h3.2.1]) hn1 (fun m x hm => ?_)
  · refine ACall.up (n1 := nx + (n1 - 2)) ?_ (by omega)
    simpa [renL, AV.ren, renN, rdL, renH, AObj.ren] using this
  · simp only [rdL, hp] at hm
    by_cases e1 : m = 1
    · subst e1
      simp at hm
      subst hm
      exact ⟨by simp, by simpa [renN, AObj.ren] using h2⟩
    · rw [if_neg e1] at hm
      by_cases e0 : m = 0
      · subst e0
        simp at hm
        subst hm
        exact ⟨by simp, by simpa [renN, AObj.ren, renL, AV.ren] using h1⟩
      · rw [if_neg e0] at hm; cases hm

theorem kRd_ok : InlOk Tryz.prog kRd := by
  intro g xs L nx v L' nx' q h hq
  unfold kRd at h
  split at h
  · rename_i hg
    split at h
    · rename_i id
      split at h
      · rename_i t1 x1 z1 id2 off n h1
        split at h
        · rename_i t2 x2 z2 ys h2
          split at h
          · rename_i h3
            simp only [Option.some.injEq, Prod.mk.injEq] at h
            obtain ⟨rfl, rfl, rfl, rfl⟩ := h
            refine ⟨?_, by omega⟩
            have q1 := hq _ List.mem_cons_self
            have q2 : off + n ≤ ys.length := hq _ (List.mem_cons_of_mem _ List.mem_cons_self)
            rcases hg with rfl | rfl | rfl
            · rw [if_pos rfl] at q1 ⊢
              exact rd_used (ru8_c ys off n t1 t2 x1 z1 x2 z2 q1 q2) (by omega) (by omega) h1 h2 h3
            · rw [if_neg (by decide), if_pos rfl] at q1 ⊢
              exact rd_used (ru16_c ys off n t1 t2 x1 z1 x2 z2 q1 q2) (by omega) (by omega) h1 h2 h3
            · rw [if_neg (by decide), if_neg (by decide)] at q1 ⊢
              exact rd_used (ru32_c ys off n t1 t2 x1 z1 x2 z2 q1 q2) (by omega) (by omega) h1 h2 h3
          · cases h
        · cases h
      · cases h
    · cases h
  · cases h
end Go.Proofs.YtfofhpkafhpicaaGreatDoor

/- The contract of the reference's sum; sums and readers, known to closed runs and to open ones. -/
namespace Go.Proofs.YtfofhpkafhpicaaGreatDoor
open Go.RowKit
set_option linter.unusedSimpArgs false
set_option linter.unusedVariables false

set_option maxHeartbeats 400000 in
theorem refadd_any (a b : Int) (w : World) (h1 : 0 ≤ a) (ha : a ≤ 65535) (h2 : 0 ≤ b) (hb : b ≤ 65535) :
    Calls Tryz.prog 204 #[.int .i64 a, .int .i64 b] w fun e w' => e = .returned (.int .i64 (add16 a.toNat b.toNat : Nat)) ∧ w = w' := by
  go_enter Tryz.func204, Tryz.ntmps204
  go_wp2
  go_ret
  refine ⟨?_, rfl⟩
  simp only [add16]
  simp
  omega

theorem refof_any (A : Option Addr) (n c : Nat) (xs : List UInt8) (lo hi : Nat) (w : World) (hn : n ≤ 100000000) (h : Rd w lo hi A n c xs) :
    Calls Tryz.prog 93 #[.slice A n c] w fun e w' => e = .returned (.int .i64 (ofL xs : Nat)) ∧ w = w' := by
  have hmax := h.max
  have hcap := h.cap
  have hlen := Lib.hid h.len
  have hat := Lib.hid h.at_
  clear h
  go_enter Tryz.func93, Tryz.ntmps93
  go_wp2
  go_loop [3, 4] (fun s i => ∃ (s' j : Nat), s' ≤ 65535 ∧ j ≤ n + 1 ∧ s = .int .i64 (s' : Int) ∧ i = .int .i64 (j : Int) ∧ Hid (prs s' (xs.drop j) = prs 0 xs))
    (fun _ i => n + 2 - (intOf i).toNat)
  case atStart => exact ⟨0, 0, by omega, by omega, rfl, rfl, by unfold Hid; simp⟩
  case round =>
    obtain ⟨s', j, hs', hj, rfl, rfl, HP⟩ := hrel
    by_cases hlt : j + 1 < n
    · obtain ⟨g, o, rfl, _, _, hc⟩ := hat.out (by omega)
      obtain ⟨x, hx⟩ : ∃ x, xs[j]? = some x := ⟨_, List.getElem?_eq_getElem (by have := hlen.out; omega)⟩
      obtain ⟨y, hy⟩ : ∃ x, xs[j + 1]? = some x := ⟨_, List.getElem?_eq_getElem (by have := hlen.out; omega)⟩
      have c1 := hc _ _ hx
      have c2 := hc _ _ hy
      clear hc
      have HX := Lib.hid hx
      have HY := Lib.hid hy
      clear hx hy
      unfold bv at c1 c2
      have hx8 := u8le x
      have hy8 := u8le y
      go_wp2_with (go_at_call 204; refine (refadd_any _ _ _ (by omega) (by omega) (by omega) (by omega)).mono ?_; rintro e w' ⟨rfl, rfl⟩)
      go_round
      case rel =>
        refine ⟨add16 s' (x.toNat * 256 + y.toNat), j + 2, add16_le _ _ hs' (by omega), by omega, ?_, by go_num, ?_⟩
        · congr 3
        · unfold Hid
          rw [← prs_two s' xs j x y HX.out HY.out]
          exact HP.out
      case measure => simp [intOf]; omega
    · by_cases h1 : j < n
      · obtain ⟨g, o, rfl, _, _, hc⟩ := hat.out (by omega)
        obtain ⟨x, hx⟩ : ∃ x, xs[j]? = some x := ⟨_, List.getElem?_eq_getElem (by have := hlen.out; omega)⟩
        have c1 := hc _ _ hx
        clear hc
        have hfin : prs s' (xs.drop j) = add16 s' (x.toNat * 256) := prs_one s' xs j x hx (by have := hlen.out; omega)
        rw [HP.out] at hfin
        have HF := Lib.hid hfin
        clear hx hfin HP hat
        unfold bv at c1
        have hx8 := u8le x
        go_wp2_with (go_at_call 204; refine (refadd_any _ _ _ (by omega) (by omega) (by omega) (by omega)).mono ?_; rintro e w' ⟨rfl, rfl⟩)
        go_round
        case rel =>
          refine ⟨add16 s' (x.toNat * 256), j + 2, add16_le _ _ hs' (by omega), by omega, ?_, by go_num, ?_⟩
          · congr 3
          · unfold Hid
            rw [HF.out, List.drop_of_length_le (by have := hlen.out; omega)]
            rfl
        case measure => simp [intOf]; omega
      · have hfin : s' = prs 0 xs := by rw [← HP.out, List.drop_of_length_le (by have := hlen.out; omega)]; rfl
        have HF := Lib.hid hfin
        clear hfin HP hat hlen
        go_wp2
        go_ret
        refine ⟨?_, rfl⟩
        have e : ((65535 - s' : Nat) : Int) = 65535 - (s' : Nat) := by omega
        simp only [ofL, ← HF.out, e]
        rfl


/-- the reference's sum, open runs -/
def kRef : Inl := fun g xs L nx =>
  if g = 93 then
    match xs with
    | [x] =>
      match bytesOf (hp L) x with
      | some (ys, p) => some (.val (.int .i64 (ofL ys : Nat)), L, nx, [p, ys.length ≤ 100000000])
      | none => none
    | _ => none
  else none
theorem kRef_ok : InlOk Tryz.prog kRef := by
  intro g xs L nx v L' nx' q h hq
  unfold kRef at h
  split at h
  · rename_i hg
    split at h
    · rename_i x
      split at h
      · rename_i ys p hb
        simp only [Option.some.injEq, Prod.mk.injEq] at h
        obtain ⟨rfl, rfl, rfl, rfl⟩ := h
        refine ⟨ACall.plain fun E w vs hs hr => ?_, Nat.le_refl _⟩
        obtain ⟨u, rfl, r⟩ := reps1 hr
        obtain ⟨A, n, c, rfl, rd⟩ := rd_of hs hb (hq _ List.mem_cons_self) r
        have hn : n ≤ 100000000 := by have := rd.len; have := hq _ (List.mem_cons_of_mem _ List.mem_cons_self); omega
        subst hg
        exact (refof_any A n c ys 0 w.heap.size w hn rd).mono fun e w' ⟨h1, h2⟩ => ⟨h1, by rw [← h2]; exact Below.refl _ _⟩
      · cases h
    · cases h
  · cases h
/-- the reference's sum, called s2 where it is of a head's 20 bytes, else s1 -/
def kOf (s1 s2 : Int) : Inl := fun g xs L nx =>
  if g = 93 then
    match xs with
    | [x] =>
      match bytesOf (hp L) x with
      | some (ys, p) =>
        if ys.length = 20 then some (.val (.int .i64 s2), L, nx, [p, (ofL ys : Int) = s2])
        else some (.val (.int .i64 s1), L, nx, [p, ys.length ≤ 100000000, (ofL ys : Int) = s1])
      | none => none
    | _ => none
  else none
theorem kOf_ok (s1 s2 : Int) : InlOk Tryz.prog (kOf s1 s2) := by
  intro g xs L nx v L' nx' q h hq
  unfold kOf at h
  split at h
  · rename_i hg
    split at h
    · rename_i x
      split at h
      · rename_i ys p hb
        split at h
        · rename_i h20
          simp only [Option.some.injEq, Prod.mk.injEq] at h
          obtain ⟨rfl, rfl, rfl, rfl⟩ := h
          have h1 : p := hq _ (by simp)
          have h2 : (ofL ys : Int) = s2 := hq _ (by simp)
          subst h2
          exact kRef_ok g [x] L nx _ L nx [p, ys.length ≤ 100000000] (by unfold kRef; simp [hg, hb]) fun r hr => by
            simp only [List.mem_cons, List.not_mem_nil, or_false] at hr
            rcases hr with rfl | rfl
            · exact h1
            · omega
        · simp only [Option.some.injEq, Prod.mk.injEq] at h
          obtain ⟨rfl, rfl, rfl, rfl⟩ := h
          have h1 : p := hq _ (by simp)
          have h3 : ys.length ≤ 100000000 := hq _ (by simp)
          have h2 : (ofL ys : Int) = s1 := hq _ (by simp)
          subst h2
          exact kRef_ok g [x] L nx _ L nx [p, ys.length ≤ 100000000] (by unfold kRef; simp [hg, hb]) fun r hr => by
            simp only [List.mem_cons, List.not_mem_nil, or_false] at hr
            rcases hr with rfl | rfl
            · exact h1
            · exact h3
      · cases h
    · cases h
  · cases h
theorem getD_cut (l : List UInt8) (off k n : Nat) (h : k < n) : ((l.drop off).take n).getD k 0 = l.getD (off + k) 0 := by
  simp [List.getD, List.getElem?_take, List.getElem?_drop, h]
/-- what a reader reads, by the bytes -/
def rdU (g : FuncId) (ys : List UInt8) (off : Nat) : AV :=
  if g = 291 then .val (.int .i64 (((ys.getD off 0).toNat : Nat) : Int))
  else if g = 184 then .val (.int .i64 (((ys.getD off 0).toNat * 256 + (ys.getD (off + 1) 0).toNat : Nat) : Int))
  else .val (.int .u32 ((((((ys.getD off 0).toNat * 256 + (ys.getD (off + 1) 0).toNat) * 256 + (ys.getD (off + 2) 0).toNat) * 256 + (ys.getD (off + 3) 0).toNat : Nat)) : Int))
/-- how many bytes a number has -/
def rdK (g : FuncId) : Nat := if g = 291 then 1 else if g = 184 then 2 else 4
def kRdU : Inl := fun g xs L nx =>
  if g = 291 ∨ g = 184 ∨ g = 292 then
    match xs with
    | [.ptr id 0 0] =>
      match hp L id with
      | some ⟨t1, 2, x1, z1, .rows [[.sl id2 off n none, .val (.bool false)]]⟩ =>
        match hp L id2 with
        | some ⟨t2, 1, x2, z2, .bytes ys⟩ =>
          if id < nx ∧ id2 < nx ∧ id ≠ id2 then
            some (rdU g ys off, [(id2, ⟨t2, 1, x2, z2, .bytes ys⟩), (id, ⟨t1, 2, x1, z1, .rows [[.sl id2 (off + rdK g) (n - rdK g) none, .val (.bool false)]]⟩)] ++ L.filter fun p => ![id, id2].contains p.1, nx + 100, [rdK g ≤ n, off + n ≤ ys.length])
          else none
        | _ => none
      | _ => none
    | _ => none
  else none
theorem kRdU_ok : InlOk Tryz.prog kRdU := by
  intro g xs L nx v L' nx' q h hq
  unfold kRdU at h
  split at h
  · rename_i hg
    split at h
    · rename_i id
      split at h
      · rename_i t1 x1 z1 id2 off n h1
        split at h
        · rename_i t2 x2 z2 ys h2
          split at h
          · rename_i h3
            simp only [Option.some.injEq, Prod.mk.injEq] at h
            obtain ⟨rfl, rfl, rfl, rfl⟩ := h
            refine ⟨?_, by omega⟩
            have q1 : rdK g ≤ n := hq _ (by simp)
            have q2 : off + n ≤ ys.length := hq _ (by simp)
            rcases hg with rfl | rfl | rfl
            · have e : rdU 291 ys off = .val (.int .i64 (at8 ys off : Nat)) := by
                have q1' : 1 ≤ n := q1
                rw [rdU, if_pos rfl, ← at8_len ys off (by omega), getD_cut _ _ _ _ (by decide)]
                rfl
              rw [e]
              exact rd_used (ru8_c ys off n t1 t2 x1 z1 x2 z2 q1 q2) (by omega) (by omega) h1 h2 h3
            · have e : rdU 184 ys off = .val (.int .i64 (at16 ys off : Nat)) := by
                have q1' : 2 ≤ n := q1
                rw [rdU, if_neg (by decide), if_pos rfl, ← at16_len ys off (by omega), getD_cut _ _ _ _ (by decide), getD_cut _ _ _ _ (by decide)]
                rfl
              rw [e]
              exact rd_used (ru16_c ys off n t1 t2 x1 z1 x2 z2 q1 q2) (by omega) (by omega) h1 h2 h3
            · have e : rdU 292 ys off = .val (.int .u32 (at32 ys off : Nat)) := by
                have q1' : 4 ≤ n := q1
                rw [rdU, if_neg (by decide), if_neg (by decide), ← at32_len ys off (by omega), getD_cut _ _ _ _ (by decide), getD_cut _ _ _ _ (by decide), getD_cut _ _ _ _ (by decide), getD_cut _ _ _ _ (by decide)]
                rfl
              rw [e]
              exact rd_used (ru32_c ys off n t1 t2 x1 z1 x2 z2 q1 q2) (by omega) (by omega) h1 h2 h3
          · cases h
        · cases h
      · cases h
    · cases h
  · cases h
/-- sums and readers, open runs -/
def kSS : Inl := orInl kRef (orInl kSum kRdU)
theorem kSS_ok : InlOk Tryz.prog kSS := orInl_ok kRef_ok (orInl_ok kSum_ok kRdU_ok)

/-- a sum of bytes that are known -/
def kSumC : Inl := fun g xs L nx =>
  if g = 93 ∨ g = 331 ∨ g = 372 then
    match xs with
    | [x] =>
      match bytesOf (hp L) x with
      | some (ys, _) =>
        if ((bytesDP (hp L) x).b && decide (ys.length ≤ 100000000)) = true then
          match orInl kRef kSum g xs L nx with
          | some (v, L', n', _) => some (v, L', n', [])
          | none => none
        else none
      | none => none
    | _ => none
  else none
theorem kSumC_ok : InlOk Tryz.prog kSumC := by
  intro g xs L nx v L' nx' q h hq
  unfold kSumC at h
  split at h
  · rename_i hg
    split at h
    · rename_i x
      split at h
      · rename_i ys p hb
        split at h
        · rename_i hc
          simp only [Bool.and_eq_true, decide_eq_true_eq] at hc
          split at h
          · rename_i v1 L1 n1 q1 h1
            simp only [Option.some.injEq, Prod.mk.injEq] at h
            obtain ⟨rfl, rfl, rfl, rfl⟩ := h
            have hp := bytesDP_ok hb ((bytesDP (hp L) x).h hc.1)
            refine orInl_ok kRef_ok kSum_ok g [x] L nx v1 L1 n1 q1 h1 ?_
            have hq1 : q1 = [p, ys.length ≤ 100000000] := by
              rcases hg with rfl | rfl | rfl
              · simp [orInl, kRef, hb] at h1
                exact h1.2.2.2.symm
              · simp [orInl, kRef, kSum, hb] at h1
                exact h1.2.2.2.symm
              · simp [orInl, kRef, kSum, hb] at h1
                exact h1.2.2.2.symm
            rw [hq1]
            intro r hr
            simp only [List.mem_cons, List.not_mem_nil, or_false] at hr
            rcases hr with rfl | rfl
            · exact hp
            · exact hc.2
          · cases h
        · cases h
      · cases h
    · cases h
  · cases h

/-- a reader's numbers, where all is known -/
def kRdC : Inl := fun g xs L nx =>
  if g = 291 ∨ g = 184 ∨ g = 292 then
    match xs with
    | [.ptr id 0 0] =>
      match hp L id with
      | some ⟨t1, 2, x1, z1, .rows [[.sl id2 off n none, .val (.bool false)]]⟩ =>
        match hp L id2 with
        | some ⟨t2, 1, x2, z2, .bytes ys⟩ =>
          if id < nx ∧ id2 < nx ∧ id ≠ id2 then
            if rdK g ≤ n ∧ off + n ≤ ys.length then
              some (if g = 291 then .val (.int .i64 (at8 ys off : Nat)) else if g = 184 then .val (.int .i64 (at16 ys off : Nat)) else .val (.int .u32 (at32 ys off : Nat)),
                [(id2, ⟨t2, 1, x2, z2, .bytes ys⟩), (id, ⟨t1, 2, x1, z1, .rows [[.sl id2 (off + rdK g) (n - rdK g) none, .val (.bool false)]]⟩)] ++ L.filter fun p => ![id, id2].contains p.1, nx + 100, [])
            else none
          else none
        | _ => none
      | _ => none
    | _ => none
  else none
theorem kRdC_ok : InlOk Tryz.prog kRdC := by
  intro g xs L nx v L' nx' q h hq
  unfold kRdC at h
  split at h
  · rename_i hg
    split at h
    · rename_i id
      split at h
      · rename_i t1 x1 z1 id2 off n h1
        split at h
        · rename_i t2 x2 z2 ys h2
          split at h
          · rename_i h3
            split at h
            · rename_i h4
              simp only [Option.some.injEq, Prod.mk.injEq] at h
              obtain ⟨rfl, rfl, rfl, rfl⟩ := h
              refine ⟨?_, by omega⟩
              rcases hg with rfl | rfl | rfl
              · rw [if_pos rfl]
                exact rd_used (ru8_c ys off n t1 t2 x1 z1 x2 z2 h4.1 h4.2) (by omega) (by omega) h1 h2 h3
              · rw [if_neg (by decide), if_pos rfl]
                exact rd_used (ru16_c ys off n t1 t2 x1 z1 x2 z2 h4.1 h4.2) (by omega) (by omega) h1 h2 h3
              · rw [if_neg (by decide), if_neg (by decide)]
                exact rd_used (ru32_c ys off n t1 t2 x1 z1 x2 z2 h4.1 h4.2) (by omega) (by omega) h1 h2 h3
            · cases h
          · cases h
        · cases h
      · cases h
    · cases h
  · cases h
/-- a reader's numbers by the bytes, where all lengths are known -/
def kRdV : Inl := fun g xs L nx =>
  if g = 291 ∨ g = 184 ∨ g = 292 then
    match xs with
    | [.ptr id 0 0] =>
      match hp L id with
      | some ⟨t1, 2, x1, z1, .rows [[.sl id2 off n none, .val (.bool false)]]⟩ =>
        match hp L id2 with
        | some ⟨t2, 1, x2, z2, .bytes ys⟩ =>
          if id < nx ∧ id2 < nx ∧ id ≠ id2 then
            if rdK g ≤ n ∧ off + n ≤ ys.length then
              some (rdU g ys off,
                [(id2, ⟨t2, 1, x2, z2, .bytes ys⟩), (id, ⟨t1, 2, x1, z1, .rows [[.sl id2 (off + rdK g) (n - rdK g) none, .val (.bool false)]]⟩)] ++ L.filter fun p => ![id, id2].contains p.1, nx + 100, [])
            else none
          else none
        | _ => none
      | _ => none
    | _ => none
  else none
theorem kRdV_ok : InlOk Tryz.prog kRdV := by
  intro g xs L nx v L' nx' q h hq
  unfold kRdV at h
  split at h
  · rename_i hg
    split at h
    · rename_i id
      split at h
      · rename_i t1 x1 z1 id2 off n h1
        split at h
        · rename_i t2 x2 z2 ys h2
          split at h
          · rename_i h3
            split at h
            · rename_i h4
              simp only [Option.some.injEq, Prod.mk.injEq] at h
              obtain ⟨rfl, rfl, rfl, rfl⟩ := h
              refine ⟨?_, by omega⟩
              exact (kRdU_ok g [.ptr id 0 0] L nx _ _ _ [rdK g ≤ n, off + n ≤ ys.length] (by unfold kRdU; simp only [if_pos hg, h1, h2, if_pos h3]) fun p hp => by
                simp only [List.mem_cons, List.not_mem_nil, or_false] at hp
                rcases hp with rfl | rfl
                · exact h4.1
                · exact h4.2).1
            · cases h
          · cases h
        · cases h
      · cases h
    · cases h
  · cases h
/-- sums and readers, closed runs -/
def kSRC : Inl := orInl kSumC kRdC
theorem kSRC_ok : InlOk Tryz.prog kSRC := orInl_ok kSumC_ok kRdC_ok
end Go.Proofs.YtfofhpkafhpicaaGreatDoor
