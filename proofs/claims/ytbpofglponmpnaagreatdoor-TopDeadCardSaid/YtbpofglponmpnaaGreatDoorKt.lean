/- Contracts for the engine: sums, readers. -/
import Derived.Test.YtbpofglponmpnaaGreatDoorRdT
import Derived.Test.YtbpofglponmpnaaGreatDoorMpw
namespace Go.Proofs.YtbpofglponmpnaaGreatDoor
open Go.RowKit

section

variable {P : Program} {E : Env} {H : Heap} {w w' : World} {nx : Nat}

/-- what was said of a world is so still where no block of it has turned -/
theorem Sat.after (s : Sat E nx H w) (b : Below w.heap.size w w') : Sat E nx H w' := by
  have m : More E w E w' := ⟨fun _ _ h => h, fun _ h => h, fun k hk => b.block k (s.imm k hk)⟩
  refine ⟨fun id o h => ?_, s.inj, s.fresh, fun k hk => Nat.lt_of_lt_of_le (s.imm k hk) b.size⟩
  obtain ⟨p, hp', ro⟩ := s.rows _ _ h
  refine ⟨p, hp', ?_⟩
  cases p with
  | nil => exact ro
  | at_ g c z => exact ro.more m ro.2.1 (b.block g (s.lt h hp'))

theorem Ext.after {N : Nat → Prop} (b : Below w.heap.size w w') : Ext E H w N E H w' :=
  ⟨fun _ _ h => h, fun _ _ h => .inl h, fun _ h => h, fun _ h => .inl h, fun k hk _ => b.block k hk, fun _ h => .inl h, b.size, b.os, b.tape, b.output⟩

end

/-- a call that yields a plain value and leaves all as it was -/
theorem ACall.plain {P : Program} {g : FuncId} {xs : List AV} {L : List (Nat × AObj)} {nx : Nat} {v : Value}
    (h : ∀ E w vs, Sat E nx (hp L) w → Reps E w xs vs → Calls P g vs w fun e w' => e = .returned v ∧ Below w.heap.size w w') : ACall P g xs L nx (.val v) L nx := by
  intro E w vs hs hr
  refine Calls.mono (h E w vs hs hr) fun e w' ⟨he, b⟩ => ?_
  exact ⟨E, v, he, hs.after b, .val _, Ext.after b⟩

theorem reps1 {E : Env} {w : World} {x : AV} {vs : Array Value} (h : Reps E w [x] vs) : ∃ u, vs = #[u] ∧ Rep E w x u := by
  obtain ⟨h1, h2⟩ := h
  have hs : vs.size = 1 := h1
  refine ⟨vs[0], ?_, h2 0 x _ rfl (by simp [hs])⟩
  apply Array.ext <;> simp_all

theorem reps2 {E : Env} {w : World} {x y : AV} {vs : Array Value} (h : Reps E w [x, y] vs) : ∃ u v, vs = #[u, v] ∧ Rep E w x u ∧ Rep E w y v := by
  obtain ⟨h1, h2⟩ := h
  have hs : vs.size = 2 := h1
  refine ⟨vs[0], vs[1], ?_, h2 0 x _ rfl (by simp [hs]), h2 1 y _ rfl (by simp [hs])⟩
  apply Array.ext
  · simp [hs]
  · intro i h3 h4
    have : i = 0 ∨ i = 1 := by omega
    rcases this with rfl | rfl <;> simp

/-! ### sums, numbers at places -/

theorem drewN_below (w : World) (k : Nat) : Below w.heap.size w (w.drewN k) := ⟨rfl, rfl, rfl, Nat.le_refl _, fun _ _ => rfl⟩

def kSum : Inl := fun g xs L nx =>
  match xs with
  | [x] =>
    if g = 329 then
      match bytesOf (hp L) x with
      | some (ys, p) => some (.val (.int .i64 (ofL ys : Nat)), L, nx, [p, ys.length ≤ 100000000])
      | none => none
    else if g = 367 then
      match bytesOf (hp L) x with
      | some (ys, p) => some (.val (.bool (ofL ys == 0)), L, nx, [p, ys.length ≤ 100000000])
      | none => none
    else none
  | _ => none

theorem kSum_ok : InlOk Tryz.prog kSum := by
  intro g xs L nx v L' nx' q h hq
  unfold kSum at h
  split at h
  · rename_i x
    split at h
    · rename_i hg
      split at h
      · rename_i ys p hb
        simp only [Option.some.injEq, Prod.mk.injEq] at h
        obtain ⟨rfl, rfl, rfl, rfl⟩ := h
        refine ⟨ACall.plain fun E w vs hs hr => ?_, Nat.le_refl _⟩
        obtain ⟨u, rfl, r⟩ := reps1 hr
        obtain ⟨A, n, c, rfl, rd⟩ := rd_of hs hb (hq _ List.mem_cons_self) r
        have hn : n ≤ 100000000 := by have := rd.len; have := hq _ (List.mem_cons_of_mem _ List.mem_cons_self); omega
        subst hg
        exact (of_any A n c ys 0 w.heap.size w hn rd).mono fun e w' ⟨h1, k, h2⟩ => ⟨h1, by rw [h2]; exact drewN_below w k⟩
      · cases h
    · split at h
      · rename_i hg
        split at h
        · rename_i ys p hb
          simp only [Option.some.injEq, Prod.mk.injEq] at h
          obtain ⟨rfl, rfl, rfl, rfl⟩ := h
          refine ⟨ACall.plain fun E w vs hs hr => ?_, Nat.le_refl _⟩
          obtain ⟨u, rfl, r⟩ := reps1 hr
          obtain ⟨A, n, c, rfl, rd⟩ := rd_of hs hb (hq _ List.mem_cons_self) r
          have hn : n ≤ 100000000 := by have := rd.len; have := hq _ (List.mem_cons_of_mem _ List.mem_cons_self); omega
          subst hg
          exact (fits_any A n c ys 0 w.heap.size w hn rd).mono fun e w' ⟨h1, k, h2⟩ => ⟨h1, by rw [h2]; exact drewN_below w k⟩
        · cases h
      · cases h
  · cases h

/-! ### readers -/

theorem wrap32_u8 (x : UInt8) : IntKind.u32.wrap (x.toNat : Int) = (x.toNat : Int) := by
  have := u8le x
  exact IntWalk.u32_in _ (by omega)

theorem wrap32_nat (n : Nat) (h : n ≤ 4294967295) : IntKind.u32.wrap (n : Int) = (n : Int) := IntWalk.u32_in _ (by omega)

theorem wrap64_nat (n : Nat) (h : n ≤ 4294967295) : IntKind.i64.wrap (n : Int) = (n : Int) := by
  rw [IntWalk.i64_in _ (by omega)]

theorem or_first (x : UInt8) : bits .or .u32 0 (IntKind.u32.wrap (x.toNat : Int)) = (x.toNat : Int) := by
  have := or_u32 0 x (by omega)
  rw [wrap32_u8]
  simpa using this

theorem or_next (v : Nat) (x : UInt8) (hv : v ≤ 16777215) : bits .or .u32 (IntKind.u32.wrap ((v : Int) * 256)) (IntKind.u32.wrap (x.toNat : Int)) = ((v * 256 + x.toNat : Nat) : Int) := by
  have h := wrap32_nat (v * 256) (by omega)
  have := or_u32 v x hv
  rw [show ((v : Int) * 256) = ((v * 256 : Nat) : Int) from by omega] at this ⊢
  rw [wrap32_u8, h]
  exact this

theorem at8_len (xs : List UInt8) (off : Nat) (h : off + 1 ≤ xs.length) : ((List.take 1 (List.drop off xs)).getD 0 0).toNat = at8 xs off := by
  unfold at8
  have hl : (List.take 1 (List.drop off xs)).length = 1 := by rw [List.length_take, List.length_drop]; omega
  match hm : List.take 1 (List.drop off xs), hl with
  | [a], _ => simp only [List.getD_cons_zero, beA, List.foldl_cons, List.foldl_nil]; omega

theorem at16_len (xs : List UInt8) (off : Nat) (h : off + 2 ≤ xs.length) : ((List.take 2 (List.drop off xs)).getD 0 0).toNat * 256 + ((List.take 2 (List.drop off xs)).getD 1 0).toNat = at16 xs off := by
  unfold at16
  have hl : (List.take 2 (List.drop off xs)).length = 2 := by simp; omega
  match hm : List.take 2 (List.drop off xs), hl with
  | [a, b], _ => simp [beA]

theorem at32_len (xs : List UInt8) (off : Nat) (h : off + 4 ≤ xs.length) : ((((List.take 4 (List.drop off xs)).getD 0 0).toNat * 256 + ((List.take 4 (List.drop off xs)).getD 1 0).toNat) * 256 + ((List.take 4 (List.drop off xs)).getD 2 0).toNat) * 256 + ((List.take 4 (List.drop off xs)).getD 3 0).toNat = at32 xs off := by
  unfold at32
  have hl : (List.take 4 (List.drop off xs)).length = 4 := by simp; omega
  match hm : List.take 4 (List.drop off xs), hl with
  | [a, b, c, d], _ => simp [beA]

/-- a reader in front of n bytes of an object's, from off on -/
def rdL (t1 t2 : Nat) (x1 z1 x2 z2 : Bool) (xs : List UInt8) (off n : Nat) : List (Nat × AObj) :=
  [(1, ⟨t2, 1, x2, z2, .bytes xs⟩), (0, ⟨t1, 2, x1, z1, .rows [[.sl 1 off n none, .val (.bool false)]]⟩)]

theorem hp_swap {a b : AObj} : ∀ id o, hp [(0, a), (1, b)] id = some o → hp [(1, b), (0, a)] id = some o := by
  intro id o h
  simp only [hp] at h ⊢
  by_cases h0 : id = 0
  · subst h0; simpa using h
  · rw [if_neg h0] at h
    by_cases h1 : id = 1
    · rw [if_pos h1] at h ⊢; exact h
    · rw [if_neg h1] at h; cases h

theorem ru8_c (xs : List UInt8) (off n t1 t2 : Nat) (x1 z1 x2 z2 : Bool) (h1 : 1 ≤ n) (h2 : off + n ≤ xs.length) :
    ACall Tryz.prog 286 [.ptr 0 0 0] (rdL t1 t2 x1 z1 x2 z2 xs off n) 2 (.val (.int .i64 (at8 xs off : Nat))) (rdL t1 t2 x1 z1 x2 z2 xs (off + 1) (n - 1)) 63 := by
  have h := (outT_ok noneKnown_ok (ru8_run xs off n t1 t2 x1 z1 x2 z2) (by
    repeat' (first | exact allNil | refine allCons ?_ ?_)
    all_goals first | decide | omega | (simp; omega))).1
  rw [or_first, at8_len xs off (by omega), wrap64_nat _ (by have := beA_bd (xs.drop off) 1; unfold at8; omega)] at h
  exact h.frame hp_swap fun id o ho => .inl ho

theorem ru16_c (xs : List UInt8) (off n t1 t2 : Nat) (x1 z1 x2 z2 : Bool) (h1 : 2 ≤ n) (h2 : off + n ≤ xs.length) :
    ACall Tryz.prog 180 [.ptr 0 0 0] (rdL t1 t2 x1 z1 x2 z2 xs off n) 2 (.val (.int .i64 (at16 xs off : Nat))) (rdL t1 t2 x1 z1 x2 z2 xs (off + 2) (n - 2)) 75 := by
  have h := (outT_ok noneKnown_ok (ru16_run xs off n t1 t2 x1 z1 x2 z2) (by
    repeat' (first | exact allNil | refine allCons ?_ ?_)
    all_goals first | decide | omega | (simp; omega))).1
  have hb := at16_lt xs off
  rw [or_first, or_next _ _ (by have := u8le (List.getD (List.take 2 (List.drop off xs)) 0 0); omega), at16_len xs off (by omega), wrap64_nat _ (by omega)] at h
  exact h.frame hp_swap fun id o ho => .inl ho

theorem ru32_c (xs : List UInt8) (off n t1 t2 : Nat) (x1 z1 x2 z2 : Bool) (h1 : 4 ≤ n) (h2 : off + n ≤ xs.length) :
    ACall Tryz.prog 287 [.ptr 0 0 0] (rdL t1 t2 x1 z1 x2 z2 xs off n) 2 (.val (.int .u32 (at32 xs off : Nat))) (rdL t1 t2 x1 z1 x2 z2 xs (off + 4) (n - 4)) 98 := by
  have h := (outT_ok noneKnown_ok (ru32_run xs off n t1 t2 x1 z1 x2 z2) (by
    repeat' (first | exact allNil | refine allCons ?_ ?_)
    all_goals first | decide | omega | (simp; omega))).1
  have u0 := u8le (List.getD (List.take 4 (List.drop off xs)) 0 0)
  have u1 := u8le (List.getD (List.take 4 (List.drop off xs)) 1 0)
  have u2 := u8le (List.getD (List.take 4 (List.drop off xs)) 2 0)
  rw [or_first, or_next _ _ (by omega), or_next _ _ (by omega), or_next _ _ (by omega), at32_len xs off (by omega)] at h
  exact h.frame hp_swap fun id o ho => .inl ho

/-- a reader's numbers, wherever it lies -/
def kRd : Inl := fun g xs L nx =>
  if g = 286 ∨ g = 180 ∨ g = 287 then
    match xs with
    | [.ptr id 0 0] =>
      match hp L id with
      | some ⟨t1, 2, x1, z1, .rows [[.sl id2 off n none, .val (.bool false)]]⟩ =>
        match hp L id2 with
        | some ⟨t2, 1, x2, z2, .bytes ys⟩ =>
          if id < nx ∧ id2 < nx ∧ id ≠ id2 then
            let k := if g = 286 then 1 else if g = 180 then 2 else 4
            some (if g = 286 then .val (.int .i64 (at8 ys off : Nat)) else if g = 180 then .val (.int .i64 (at16 ys off : Nat)) else .val (.int .u32 (at32 ys off : Nat)),
              [(id2, ⟨t2, 1, x2, z2, .bytes ys⟩), (id, ⟨t1, 2, x1, z1, .rows [[.sl id2 (off + k) (n - k) none, .val (.bool false)]]⟩)] ++ L.filter fun p => ![id, id2].contains p.1, nx + 100, [k ≤ n, off + n ≤ ys.length])
          else none
        | _ => none
      | _ => none
    | _ => none
  else none

theorem rd_used {g : FuncId} {v : Value} {k n1 : Nat} {t1 t2 : Nat} {x1 z1 x2 z2 : Bool} {ys : List UInt8} {off n id id2 nx : Nat} {L : List (Nat × AObj)}
    (h : ACall Tryz.prog g [.ptr 0 0 0] (rdL t1 t2 x1 z1 x2 z2 ys off n) 2 (.val v) (rdL t1 t2 x1 z1 x2 z2 ys (off + k) (n - k)) n1) (hn1 : 2 ≤ n1) (hn2 : n1 ≤ 102)
    (h1 : hp L id = some ⟨t1, 2, x1, z1, .rows [[.sl id2 off n none, .val (.bool false)]]⟩) (h2 : hp L id2 = some ⟨t2, 1, x2, z2, .bytes ys⟩) (h3 : id < nx ∧ id2 < nx ∧ id ≠ id2) :
    ACall Tryz.prog g [.ptr id 0 0] L nx (.val v) ([(id2, ⟨t2, 1, x2, z2, .bytes ys⟩), (id, ⟨t1, 2, x1, z1, .rows [[.sl id2 (off + k) (n - k) none, .val (.bool false)]]⟩)] ++ L.filter fun p => ![id, id2].contains p.1) (nx + 100) := by
  have := ACall.used (ids := [id, id2]) (K := L) (nx := nx) (h : ACall Tryz.prog g [.ptr 0 0 0] (rdL t1 t2 x1 z1 x2 z2 ys off n) [id, id2].length (.val v) _ n1)
    (by simp [h3.2.2]) (by simp [h3.1, h3.2.1]) hn1 (fun m x hm => ?_)
  · refine ACall.up (n1 := nx + (n1 - 2)) ?_ (by omega)
    simpa [renL, AV.ren, renN, rdL, renH, AObj.ren] using this
  · simp only [rdL, hp] at hm
    by_cases e1 : m = 1
    · subst e1
      simp at hm
      subst hm
      exact ⟨by simp, by simpa [renN, AObj.ren] using h2⟩
    · rw [if_neg e1] at hm
      by_cases e0 : m = 0
      · subst e0
        simp at hm
        subst hm
        exact ⟨by simp, by simpa [renN, AObj.ren, renL, AV.ren] using h1⟩
      · rw [if_neg e0] at hm; cases hm

theorem kRd_ok : InlOk Tryz.prog kRd := by
  intro g xs L nx v L' nx' q h hq
  unfold kRd at h
  split at h
  · rename_i hg
    split at h
    · rename_i id
      split at h
      · rename_i t1 x1 z1 id2 off n h1
        split at h
        · rename_i t2 x2 z2 ys h2
          split at h
          · rename_i h3
            simp only [Option.some.injEq, Prod.mk.injEq] at h
            obtain ⟨rfl, rfl, rfl, rfl⟩ := h
            refine ⟨?_, by omega⟩
            have q1 := hq _ List.mem_cons_self
            have q2 : off + n ≤ ys.length := hq _ (List.mem_cons_of_mem _ List.mem_cons_self)
            rcases hg with rfl | rfl | rfl
            · rw [if_pos rfl] at q1 ⊢
              exact rd_used (ru8_c ys off n t1 t2 x1 z1 x2 z2 q1 q2) (by omega) (by omega) h1 h2 h3
            · rw [if_neg (by decide), if_pos rfl] at q1 ⊢
              exact rd_used (ru16_c ys off n t1 t2 x1 z1 x2 z2 q1 q2) (by omega) (by omega) h1 h2 h3
            · rw [if_neg (by decide), if_neg (by decide)] at q1 ⊢
              exact rd_used (ru32_c ys off n t1 t2 x1 z1 x2 z2 q1 q2) (by omega) (by omega) h1 h2 h3
          · cases h
        · cases h
      · cases h
    · cases h
  · cases h
end Go.Proofs.YtbpofglponmpnaaGreatDoor
